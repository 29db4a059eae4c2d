/- The law's anchor: touchstonelaw16.anchor. The rows of made sums are small, plain and in order (plain). -/
import Derived.Test.YtckfnbckoclhpaaGreatDoorE27
import Derived.Test.YtckfnbckoclhpaaGreatDoorE22
import Derived.Test.YtckfnbckoclhpaaGreatDoorE23
namespace Go.Proofs.YtckfnbckoclhpaaGreatDoor
section
set_option linter.unusedVariables false
set_option linter.unusedSimpArgs false
open Go.RowKit
theorem digs_one {d : Nat} (h0 : d ≠ 0) (h : d < 10) : digs d = [d] := by
  rw [digs_pos h0, Nat.mod_eq_of_lt h, Nat.div_eq_of_lt h, digs_zero]
theorem t_1 : ztext 1 = [49] := by
  have : digs 1 = [1] := digs_one (by decide) (by decide)
  simp [ztext, this]
theorem anch_text : ttext 1 [([120], 1)] = [49, 42, 120, 43, 49] := by
  simp [ttext, t_1]
def anchF : List (Key × Int) := [([120], 1)]
def anch1 : RowM := ⟨1, [([120], 2)], false⟩
def anch2 : RowM := ⟨0, [([120], -1)], false⟩
theorem anch_f1 : factOf anch1 = .up anchF 1 := by kernel_rfl
theorem anch_f2 : factOf anch2 = .lo anchF 0 := by kernel_rfl
theorem anch_l1 : learnAll [anch1] = (true, putM [] (ttext 0 anchF) ⟨anchF, some 1, none, none⟩) := by
  show learnF (true, []) (factOf anch1) = _
  rw [anch_f1]
  rfl
theorem anch_l2 : learnAll [anch1, anch2] = (true, putM [] (ttext 0 anchF) ⟨anchF, some 1, some 0, none⟩) := by
  have h : learnAll [anch1, anch2] = learnF (learnAll [anch1]) (factOf anch2) := rfl
  have hr : Rise ([] : List (Key × Pr)) := List.Pairwise.nil
  rw [h, anch_l1, anch_f2]
  unfold learnF pairOf
  dsimp only
  rw [look_put hr, if_pos rfl, putM_putM hr]
  rfl
theorem anch_no : ((learnAll [anch1, anch2]).1 && allOk (learnAll [anch1, anch2]).2) = false := by
  rw [anch_l2]
  rfl
theorem anch_yes : ((learnAll [anch1]).1 && allOk (learnAll [anch1]).2) = true := by
  rw [anch_l1]
  rfl
theorem anch_rows : allRows (learnAll [anch1]).2 = [⟨1, anchF, false⟩] := by
  rw [anch_l1]
  rfl
theorem anch_big : Big 4 := up_from (n := 4 + 1100000 * 4) (a := 1) (b := 30000) (by decide) (by decide)
theorem anch_g1 : Good 4 anch1 := ⟨⟨fun f hf => by
  rw [List.mem_singleton.1 hf]
  decide, by decide, fun f hf => by
  rw [List.mem_singleton.1 hf]
  decide, fun f hf => by
  rw [List.mem_singleton.1 hf]
  decide⟩, up_one (by decide)⟩
theorem anch_g2 : Good 4 anch2 := ⟨⟨fun f hf => by
  rw [List.mem_singleton.1 hf]
  decide, by decide, fun f hf => by
  rw [List.mem_singleton.1 hf]
  decide, fun f hf => by
  rw [List.mem_singleton.1 hf]
  decide⟩, up_zero⟩
theorem hold_two {w : World} {q1 q2 : RawR} {r1 r2 : RowM} (h1 : RowIs w q1 r1) (h2 : RowIs w q2 r2) : HoldR w [q1, q2] [r1, r2] := (HoldR.one h1).append (HoldR.one h2)
set_option maxHeartbeats 4000000 in
set_option maxRecDepth 100000 in
theorem anchor16_any (w0 : World) : Calls Tryz.prog 8 #[] w0 fun e w' => e = .returned (.bool true) ∧ Pu w0 w' := by
  have Hn := Lib.hid (tname_any [120] w0)
  go_enter Tryz.func8, Tryz.ntmps8
  go_wp2_with fail
  refine Hn.out.mono ?_
  rintro e w1 ⟨v, rfl, hx, p1⟩
  obtain ⟨ga, Aa, na, ca, ma, rfl⟩ := hx.shape
  obtain ⟨V0, hVe⟩ : ∃ V0, V0 = w1.alloc (.cells #[.bool ga, .slice Aa na ca, .pointer ma] 33) := ⟨_, rfl⟩
  have pV : Pu w1 V0 := by rw [hVe]; exact (Pu.refl w1).alloc _
  have k1 : Blk V0 w1.heap.size 33 #[.bool ga, .slice Aa na ca, .pointer ma] := by rw [hVe]; exact Blk.new _ _ _
  have hxV := hx.pu pV
  have pW := p1.trans pV
  have HVe := Lib.hid hVe
  have Htimes := Lib.hid (show ∀ V (hV : Pu V0 V) (b : Value) (z : Int), z.natAbs ≤ 2 → ZR V b z → Calls Tryz.prog 29 #[.agg #[.bool ga, .slice Aa na ca, .pointer ma], b] V fun e w' => ∃ v, e = .returned v ∧ TMO w' V.heap.size v (0 * z) (addM [] [([120], 1)] z) ∧ Pu V w' from fun V hV b z hz hb => ttimes_any _ b 0 z [([120], 1)] 2 V (hxV.pu hV) hb (fun g hg => by
    rw [List.mem_singleton.1 hg, Int.one_mul]
    exact hz) (by simp) (up_from (n := 1100000 * 2) (a := 1) (b := 30000) (by decide) (by decide)) (up_from (n := z.natAbs) (a := 1) (b := 30000) (Nat.lt_of_le_of_lt hz (by decide)) (by decide)) (fun g hg => by
    rw [List.mem_singleton.1 hg]
    show (1 : Int).natAbs < _
    exact up_one (by decide)) up_zero)
  have Hplus := Lib.hid (show ∀ V (a : Value) (q : Nat) (g2 : Bool) (Aq : Option Addr) (n2 c2 : Nat) (m2 : Option Addr), TM V a (0 * 2) (addM [] [([120], 1)] 2) → TM V (.agg #[.bool g2, .slice Aq n2 c2, .pointer m2]) 1 [] → Blk V q 33 #[.bool g2, .slice Aq n2 c2, .pointer m2] → Calls Tryz.prog 31 #[a, .slice (some ⟨q, 0, none⟩) 1 1] V fun e w' => ∃ v, e = .returned v ∧ TMO w' V.heap.size v (0 * 2 + 1 * 1) (addM (addM [] [([120], 1)] 2) [] 1) ∧ Pu V w' from fun V a q g2 Aq n2 c2 m2 h1 h2 h3 => tplus_any a (0 * 2) 1 _ [] 2 0 V q g2 Aq n2 c2 m2 h1 h3 h2 (fun g hg => by
    have e : addM [] [([120], (1 : Int))] 2 = [([120], 2)] := by decide
    rw [e] at hg
    rw [List.mem_singleton.1 hg]
    decide) (Upto.nil 0) (by decide) (up_from (n := 2 + 1100000 * 0) (a := 1) (b := 30000) (by decide) (by decide)) (by rw [Int.zero_mul]; exact up_zero) (up_one (by decide)))
  clear hVe hx p1 pV
  go_wp2_with fail
  try rw [← HVe.out]
  have pd : Pu V0 V0.drew := (Pu.refl V0).drew
  refine wp_region_stableA1 13 (fun _ w => Pu V0 w) (fun _ => Pu) (fun io => match io with | 0 => fun vv_ _ => vv_ = .agg #[.bool ga, .slice Aa na ca, .pointer ma] | 1 => fun v w => ∃ g A n c, v = .agg #[.bool g, .slice A n c] ∧ ZR w (.agg #[.bool g, .slice A n c]) (2) | 2 => fun v w => ∃ g A n c m, v = .agg #[.bool g, .slice A n c, .pointer m] ∧ TM w (.agg #[.bool g, .slice A n c, .pointer m]) (0 * 2) (addM [] [([120], 1)] (2)) | 3 => fun v w => ∃ g A n c, v = .agg #[.bool g, .slice A n c] ∧ ZR w (.agg #[.bool g, .slice A n c]) (1) | 4 => fun v w => ∃ g A n c, v = .agg #[.bool g, .slice A n c, .pointer none] ∧ ZR w (.agg #[.bool g, .slice A n c]) 1 | 5 => fun v w => ∃ q g A n c, v = .slice (some ⟨q, 0, none⟩) 1 1 ∧ Blk w q 33 #[.bool g, .slice A n c, .pointer none] ∧ ZR w (.agg #[.bool g, .slice A n c]) 1 | 6 => fun v w => ∃ g A n c m, v = .agg #[.bool g, .slice A n c, .pointer m] ∧ TM w (.agg #[.bool g, .slice A n c, .pointer m]) (0 * 2 + 1 * 1) (addM (addM [] [([120], 1)] 2) [] 1) | 7 => fun v w => ∃ g A n c m, v = .agg #[.bool g, .slice A n c, .pointer m, .bool false] ∧ TM w (.agg #[.bool g, .slice A n c, .pointer m]) (0 * 2 + 1 * 1) (addM (addM [] [([120], 1)] 2) [] 1) | 8 => fun vv_ _ => vv_ = .agg #[.bool ga, .slice Aa na ca, .pointer ma] | 9 => fun v w => ∃ g A n c, v = .agg #[.bool g, .slice A n c] ∧ ZR w (.agg #[.bool g, .slice A n c]) (-1) | 10 => fun v w => ∃ g A n c m, v = .agg #[.bool g, .slice A n c, .pointer m] ∧ TM w (.agg #[.bool g, .slice A n c, .pointer m]) (0 * -1) (addM [] [([120], 1)] (-1)) | 11 => fun v w => ∃ g A n c m, v = .agg #[.bool g, .slice A n c, .pointer m, .bool false] ∧ TM w (.agg #[.bool g, .slice A n c, .pointer m]) (0 * -1) (addM [] [([120], 1)] (-1)) | 12 => fun v w => ∃ q g A n c m g' A' n' c' m', v = .slice (some ⟨q, 0, none⟩) 2 2 ∧ Blk w q 35 #[.bool g, .slice A n c, .pointer m, .bool false, .bool g', .slice A' n' c', .pointer m', .bool false] ∧ TM w (.agg #[.bool g, .slice A n c, .pointer m]) (0 * 2 + 1 * 1) (addM (addM [] [([120], 1)] 2) [] 1) ∧ TM w (.agg #[.bool g', .slice A' n' c', .pointer m']) (0 * -1) (addM [] [([120], 1)] (-1)) | _ => fun _ _ => True) [some 8, some 9, some 10, some 11, some 12, some 13, some 14, some 15, some 16, some 17, some 18, some 19, some 20] (by kernel_rfl) (by kernel_rfl) rfl pd ?_ ?_ ?_ ?_
  · intro ko lst u u' hk hLk hI hR
    exact hI.trans hR
  · intro io ko v u u' hi hk hik h hR0
    have hR := hR0
    match io, hi, hik, h with
    | 0, _, _, h => exact h
    | 1, _, hik, h =>
      replace h : ∃ g A n c, v = .agg #[.bool g, .slice A n c] ∧ ZR u (.agg #[.bool g, .slice A n c]) (2) := h
      obtain ⟨g, A, n, c, e, h⟩ := h
      exact ⟨g, A, n, c, e, h.pu hR⟩
    | 2, _, hik, h =>
      replace h : ∃ g A n c m, v = .agg #[.bool g, .slice A n c, .pointer m] ∧ TM u (.agg #[.bool g, .slice A n c, .pointer m]) (0 * 2) (addM [] [([120], 1)] (2)) := h
      obtain ⟨g, A, n, c, m, e, h⟩ := h
      exact ⟨g, A, n, c, m, e, h.pu hR⟩
    | 3, _, hik, h =>
      replace h : ∃ g A n c, v = .agg #[.bool g, .slice A n c] ∧ ZR u (.agg #[.bool g, .slice A n c]) (1) := h
      obtain ⟨g, A, n, c, e, h⟩ := h
      exact ⟨g, A, n, c, e, h.pu hR⟩
    | 4, _, hik, h =>
      replace h : ∃ g A n c, v = .agg #[.bool g, .slice A n c, .pointer none] ∧ ZR u (.agg #[.bool g, .slice A n c]) 1 := h
      obtain ⟨g, A, n, c, e, h⟩ := h
      exact ⟨g, A, n, c, e, h.pu hR⟩
    | 5, _, hik, h =>
      replace h : ∃ q g A n c, v = .slice (some ⟨q, 0, none⟩) 1 1 ∧ Blk u q 33 #[.bool g, .slice A n c, .pointer none] ∧ ZR u (.agg #[.bool g, .slice A n c]) 1 := h
      obtain ⟨q, g, A, n, c, e, h, h'⟩ := h
      exact ⟨q, g, A, n, c, e, h.pu hR, h'.pu hR⟩
    | 6, _, hik, h =>
      replace h : ∃ g A n c m, v = .agg #[.bool g, .slice A n c, .pointer m] ∧ TM u (.agg #[.bool g, .slice A n c, .pointer m]) (0 * 2 + 1 * 1) (addM (addM [] [([120], 1)] 2) [] 1) := h
      obtain ⟨g, A, n, c, m, e, h⟩ := h
      exact ⟨g, A, n, c, m, e, h.pu hR⟩
    | 7, _, hik, h =>
      replace h : ∃ g A n c m, v = .agg #[.bool g, .slice A n c, .pointer m, .bool false] ∧ TM u (.agg #[.bool g, .slice A n c, .pointer m]) (0 * 2 + 1 * 1) (addM (addM [] [([120], 1)] 2) [] 1) := h
      obtain ⟨g, A, n, c, m, e, h⟩ := h
      exact ⟨g, A, n, c, m, e, h.pu hR⟩
    | 8, _, _, h => exact h
    | 9, _, hik, h =>
      replace h : ∃ g A n c, v = .agg #[.bool g, .slice A n c] ∧ ZR u (.agg #[.bool g, .slice A n c]) (-1) := h
      obtain ⟨g, A, n, c, e, h⟩ := h
      exact ⟨g, A, n, c, e, h.pu hR⟩
    | 10, _, hik, h =>
      replace h : ∃ g A n c m, v = .agg #[.bool g, .slice A n c, .pointer m] ∧ TM u (.agg #[.bool g, .slice A n c, .pointer m]) (0 * -1) (addM [] [([120], 1)] (-1)) := h
      obtain ⟨g, A, n, c, m, e, h⟩ := h
      exact ⟨g, A, n, c, m, e, h.pu hR⟩
    | 11, _, hik, h =>
      replace h : ∃ g A n c m, v = .agg #[.bool g, .slice A n c, .pointer m, .bool false] ∧ TM u (.agg #[.bool g, .slice A n c, .pointer m]) (0 * -1) (addM [] [([120], 1)] (-1)) := h
      obtain ⟨g, A, n, c, m, e, h⟩ := h
      exact ⟨g, A, n, c, m, e, h.pu hR⟩
    | 12, _, hik, h =>
      replace h : ∃ q g A n c m g' A' n' c' m', v = .slice (some ⟨q, 0, none⟩) 2 2 ∧ Blk u q 35 #[.bool g, .slice A n c, .pointer m, .bool false, .bool g', .slice A' n' c', .pointer m', .bool false] ∧ TM u (.agg #[.bool g, .slice A n c, .pointer m]) (0 * 2 + 1 * 1) (addM (addM [] [([120], 1)] 2) [] 1) ∧ TM u (.agg #[.bool g', .slice A' n' c', .pointer m']) (0 * -1) (addM [] [([120], 1)] (-1)) := h
      obtain ⟨q, g, A, n, c, m, g', A', n', c', m', e, h1, h2, h3⟩ := h
      exact ⟨q, g, A, n, c, m, g', A', n', c', m', e, h1.pu hR, h2.pu hR, h3.pu hR⟩
    | _ + 13, hi, _, _ => exact absurd hi (by omega)
  · refine StepsS.cons [] rfl (by kernel_rfl) (fun y lst V hLk hV hp K hK => ?_) ?_
    · try dsimp only at hK
      simp only [putsL, upd, Act.put, List.setIfInBounds_toArray, List.set_cons_zero, List.set_cons_succ, Nat.reduceEqDiff, Nat.succ_ne_zero, Nat.reduceAdd, zero_ne_one_, one_ne_zero_, reduceIte] at hK ⊢
      clear hp
      try dsimp only at hV
      have x0 := (k1.pu hV).cell 0
      have x1 := (k1.pu hV).cell 1
      have x2 := (k1.pu hV).cell 2
      go_simp
      exact hK.out _ _ (Pu.refl _) rfl
    refine StepsS.cons [] rfl (by kernel_rfl) (fun y lst V hLk hV hp K hK => ?_) ?_
    · try dsimp only at hK
      simp only [putsL, upd, Act.put, List.setIfInBounds_toArray, List.set_cons_zero, List.set_cons_succ, Nat.reduceEqDiff, Nat.succ_ne_zero, Nat.reduceAdd, zero_ne_one_, one_ne_zero_, reduceIte] at hK ⊢
      clear hp
      try dsimp only at hV
      go_simp
      go_at_call 30
      refine (from_any (2) _ (by decide) (by decide)).mono ?_
      rintro e u1 ⟨v, rfl, h15, p1⟩
      obtain ⟨g, A, n, c, rfl⟩ := h15.shape2
      go_wp2_with fail
      exact hK.out _ _ p1 ⟨g, A, n, c, rfl, h15⟩
    refine StepsS.cons [0, 1] rfl (by kernel_rfl) (fun y lst V hLk hV hp K hK => ?_) ?_
    · try dsimp only at hK
      simp only [putsL, upd, Act.put, List.setIfInBounds_toArray, List.set_cons_zero, List.set_cons_succ, Nat.reduceEqDiff, Nat.succ_ne_zero, Nat.reduceAdd, zero_ne_one_, one_ne_zero_, reduceIte] at hK ⊢
      have ea := hp 0 (by simp)
      have eb := hp 1 (by simp)
      clear hp
      try dsimp only at hV ea eb
      generalize y 0 = z0 at hK ea ⊢
      generalize y 1 = z1 at hK eb ⊢
      subst ea
      obtain ⟨gb, Ab, nb, cb, rfl, hb⟩ := eb
      go_simp
      go_at_call 29
      refine (Htimes.out _ hV _ (2) (by decide) hb).mono ?_
      rintro e u1 ⟨v, rfl, h16, p1⟩
      obtain ⟨g, A, n, c, m, rfl⟩ := h16.tm.shape
      go_wp2_with fail
      exact hK.out _ _ p1 ⟨g, A, n, c, m, rfl, h16.tm⟩
    refine StepsS.cons [] rfl (by kernel_rfl) (fun y lst V hLk hV hp K hK => ?_) ?_
    · try dsimp only at hK
      simp only [putsL, upd, Act.put, List.setIfInBounds_toArray, List.set_cons_zero, List.set_cons_succ, Nat.reduceEqDiff, Nat.succ_ne_zero, Nat.reduceAdd, zero_ne_one_, one_ne_zero_, reduceIte] at hK ⊢
      clear hp
      try dsimp only at hV
      go_simp
      go_at_call 30
      refine (from_any (1) _ (by decide) (by decide)).mono ?_
      rintro e u1 ⟨v, rfl, h15, p1⟩
      obtain ⟨g, A, n, c, rfl⟩ := h15.shape2
      go_wp2_with fail
      exact hK.out _ _ p1 ⟨g, A, n, c, rfl, h15⟩
    refine StepsS.cons [3] rfl (by kernel_rfl) (fun y lst V hLk hV hp K hK => ?_) ?_
    · try dsimp only at hK
      simp only [putsL, upd, Act.put, List.setIfInBounds_toArray, List.set_cons_zero, List.set_cons_succ, Nat.reduceEqDiff, Nat.succ_ne_zero, Nat.reduceAdd, zero_ne_one_, one_ne_zero_, reduceIte] at hK ⊢
      have ea := hp 3 (by simp)
      clear hp
      try dsimp only at hV ea
      generalize y 3 = z3 at hK ea ⊢
      obtain ⟨gb, Ab, nb, cb, rfl, hb⟩ := ea
      go_simp
      go_at_call 32
      refine (tnum_none _ 1 _ hb).mono ?_
      rintro e u1 ⟨g, A, n, c, rfl, h12, p1⟩
      go_wp2_with fail
      exact hK.out _ _ p1 ⟨g, A, n, c, rfl, h12⟩
    refine StepsS.cons [4] rfl (by kernel_rfl) (fun y lst V hLk hV hp K hK => ?_) ?_
    · try dsimp only at hK
      simp only [putsL, upd, Act.put, List.setIfInBounds_toArray, List.set_cons_zero, List.set_cons_succ, Nat.reduceEqDiff, Nat.succ_ne_zero, Nat.reduceAdd, zero_ne_one_, one_ne_zero_, reduceIte] at hK ⊢
      have ea := hp 4 (by simp)
      clear hp
      try dsimp only at hV ea
      generalize y 4 = z4 at hK ea ⊢
      obtain ⟨gb, Ab, nb, cb, rfl, hb⟩ := ea
      go_simp
      exact hK.out _ _ ((Pu.refl _).alloc _) ⟨_, _, _, _, _, rfl, Blk.new _ _ _, hb.pu ((Pu.refl _).alloc _)⟩
    refine StepsS.cons [2, 5] rfl (by kernel_rfl) (fun y lst V hLk hV hp K hK => ?_) ?_
    · try dsimp only at hK
      simp only [putsL, upd, Act.put, List.setIfInBounds_toArray, List.set_cons_zero, List.set_cons_succ, Nat.reduceEqDiff, Nat.succ_ne_zero, Nat.reduceAdd, zero_ne_one_, one_ne_zero_, reduceIte] at hK ⊢
      have ea := hp 2 (by simp)
      have eb := hp 5 (by simp)
      clear hp
      try dsimp only at hV ea eb
      generalize y 2 = z2 at hK ea ⊢
      generalize y 5 = z5 at hK eb ⊢
      obtain ⟨ga', Aa', na', ca', ma', rfl, ha⟩ := ea
      obtain ⟨qb, gb, Ab, nb, cb, rfl, hb, hb'⟩ := eb
      go_simp
      go_at_call 31
      refine (Hplus.out _ _ qb gb Ab nb cb none ha ⟨gb, Ab, nb, cb, none, rfl, hb', .inl ⟨rfl, rfl⟩⟩ hb).mono ?_
      rintro e u1 ⟨v, rfl, h16, p1⟩
      obtain ⟨g, A, n, c, m, rfl⟩ := h16.tm.shape
      go_wp2_with fail
      exact hK.out _ _ p1 ⟨g, A, n, c, m, rfl, h16.tm⟩
    refine StepsS.cons [6] rfl (by kernel_rfl) (fun y lst V hLk hV hp K hK => ?_) ?_
    · try dsimp only at hK
      simp only [putsL, upd, Act.put, List.setIfInBounds_toArray, List.set_cons_zero, List.set_cons_succ, Nat.reduceEqDiff, Nat.succ_ne_zero, Nat.reduceAdd, zero_ne_one_, one_ne_zero_, reduceIte] at hK ⊢
      have ea := hp 6 (by simp)
      clear hp
      try dsimp only at hV ea
      generalize y 6 = z6 at hK ea ⊢
      obtain ⟨ga', Aa', na', ca', ma', rfl, ha⟩ := ea
      go_simp
      exact hK.out _ _ (Pu.refl _) ⟨_, _, _, _, _, rfl, ha⟩
    refine StepsS.cons [] rfl (by kernel_rfl) (fun y lst V hLk hV hp K hK => ?_) ?_
    · try dsimp only at hK
      simp only [putsL, upd, Act.put, List.setIfInBounds_toArray, List.set_cons_zero, List.set_cons_succ, Nat.reduceEqDiff, Nat.succ_ne_zero, Nat.reduceAdd, zero_ne_one_, one_ne_zero_, reduceIte] at hK ⊢
      clear hp
      try dsimp only at hV
      have x0 := (k1.pu hV).cell 0
      have x1 := (k1.pu hV).cell 1
      have x2 := (k1.pu hV).cell 2
      go_simp
      exact hK.out _ _ (Pu.refl _) rfl
    refine StepsS.cons [] rfl (by kernel_rfl) (fun y lst V hLk hV hp K hK => ?_) ?_
    · try dsimp only at hK
      simp only [putsL, upd, Act.put, List.setIfInBounds_toArray, List.set_cons_zero, List.set_cons_succ, Nat.reduceEqDiff, Nat.succ_ne_zero, Nat.reduceAdd, zero_ne_one_, one_ne_zero_, reduceIte] at hK ⊢
      clear hp
      try dsimp only at hV
      go_simp
      go_at_call 30
      refine (from_any (-1) _ (by decide) (by decide)).mono ?_
      rintro e u1 ⟨v, rfl, h15, p1⟩
      obtain ⟨g, A, n, c, rfl⟩ := h15.shape2
      go_wp2_with fail
      exact hK.out _ _ p1 ⟨g, A, n, c, rfl, h15⟩
    refine StepsS.cons [8, 9] rfl (by kernel_rfl) (fun y lst V hLk hV hp K hK => ?_) ?_
    · try dsimp only at hK
      simp only [putsL, upd, Act.put, List.setIfInBounds_toArray, List.set_cons_zero, List.set_cons_succ, Nat.reduceEqDiff, Nat.succ_ne_zero, Nat.reduceAdd, zero_ne_one_, one_ne_zero_, reduceIte] at hK ⊢
      have ea := hp 8 (by simp)
      have eb := hp 9 (by simp)
      clear hp
      try dsimp only at hV ea eb
      generalize y 8 = z8 at hK ea ⊢
      generalize y 9 = z9 at hK eb ⊢
      subst ea
      obtain ⟨gb, Ab, nb, cb, rfl, hb⟩ := eb
      go_simp
      go_at_call 29
      refine (Htimes.out _ hV _ (-1) (by decide) hb).mono ?_
      rintro e u1 ⟨v, rfl, h16, p1⟩
      obtain ⟨g, A, n, c, m, rfl⟩ := h16.tm.shape
      go_wp2_with fail
      exact hK.out _ _ p1 ⟨g, A, n, c, m, rfl, h16.tm⟩
    refine StepsS.cons [10] rfl (by kernel_rfl) (fun y lst V hLk hV hp K hK => ?_) ?_
    · try dsimp only at hK
      simp only [putsL, upd, Act.put, List.setIfInBounds_toArray, List.set_cons_zero, List.set_cons_succ, Nat.reduceEqDiff, Nat.succ_ne_zero, Nat.reduceAdd, zero_ne_one_, one_ne_zero_, reduceIte] at hK ⊢
      have ea := hp 10 (by simp)
      clear hp
      try dsimp only at hV ea
      generalize y 10 = z10 at hK ea ⊢
      obtain ⟨ga', Aa', na', ca', ma', rfl, ha⟩ := ea
      go_simp
      exact hK.out _ _ (Pu.refl _) ⟨_, _, _, _, _, rfl, ha⟩
    refine StepsS.cons [7, 11] rfl (by kernel_rfl) (fun y lst V hLk hV hp K hK => ?_) ?_
    · try dsimp only at hK
      simp only [putsL, upd, Act.put, List.setIfInBounds_toArray, List.set_cons_zero, List.set_cons_succ, Nat.reduceEqDiff, Nat.succ_ne_zero, Nat.reduceAdd, zero_ne_one_, one_ne_zero_, reduceIte] at hK ⊢
      have ea := hp 7 (by simp)
      have eb := hp 11 (by simp)
      clear hp
      try dsimp only at hV ea eb
      generalize y 7 = z7 at hK ea ⊢
      generalize y 11 = z11 at hK eb ⊢
      obtain ⟨gx, Ax, nx, cx, mx, rfl, ha⟩ := ea
      obtain ⟨gb, Ab, nb, cb, mb, rfl, hb⟩ := eb
      go_simp
      exact hK.out _ _ ((Pu.refl _).alloc _) ⟨_, _, _, _, _, _, _, _, _, _, _, rfl, Blk.new _ _ _, ha.pu ((Pu.refl _).alloc _), hb.pu ((Pu.refl _).alloc _)⟩
    exact StepsS.nil
  · intro y V lst hL hV hp
    have f0 := hp 0 (by decide)
    have f1 := hp 1 (by decide)
    have f2 := hp 2 (by decide)
    have f3 := hp 3 (by decide)
    have f4 := hp 4 (by decide)
    have f5 := hp 5 (by decide)
    have f6 := hp 6 (by decide)
    have f7 := hp 7 (by decide)
    have f8 := hp 8 (by decide)
    have f9 := hp 9 (by decide)
    have f10 := hp 10 (by decide)
    have f11 := hp 11 (by decide)
    have f12 := hp 12 (by decide)
    clear hp
    try dsimp only at hV f0 f1 f2 f3 f4 f5 f6 f7 f8 f9 f10 f11 f12
    simp only [putsL, upd, Act.put, List.setIfInBounds_toArray, List.set_cons_zero, List.set_cons_succ, Nat.reduceEqDiff, Nat.succ_ne_zero, Nat.reduceAdd, zero_ne_one_, one_ne_zero_, reduceIte]
    generalize y 0 = z0 at f0 ⊢
    generalize y 1 = z1 at f1 ⊢
    generalize y 2 = z2 at f2 ⊢
    generalize y 3 = z3 at f3 ⊢
    generalize y 4 = z4 at f4 ⊢
    generalize y 5 = z5 at f5 ⊢
    generalize y 6 = z6 at f6 ⊢
    generalize y 7 = z7 at f7 ⊢
    generalize y 8 = z8 at f8 ⊢
    generalize y 9 = z9 at f9 ⊢
    generalize y 10 = z10 at f10 ⊢
    generalize y 11 = z11 at f11 ⊢
    generalize y 12 = z12 at f12 ⊢
    subst f0
    subst f8
    clear f1 f2 f3 f4 f5 f6 f7 f9 f10 f11
    obtain ⟨q, g, A, n, c, m, g', A', n', c', m', rfl, hB, ha, hb⟩ := f12
    have e1 : (0 * 2 + 1 * 1 : Int) = 1 := by decide
    have e2 : addM (addM [] [([120], (1 : Int))] 2) [] 1 = [([120], 2)] := by decide
    have e3 : (0 * -1 : Int) = 0 := by decide
    have e4 : addM [] [([120], (1 : Int))] (-1) = [([120], -1)] := by decide
    rw [e1, e2] at ha
    rw [e3, e4] at hb
    clear e1 e2 e3 e4
    have hS2 : SlR V (some ⟨q, 0, none⟩) 2 2 [⟨g, A, n, c, m, false⟩, ⟨g', A', n', c', m', false⟩] := Sl.of_blk hB 4 2 2 rfl (by decide)
    have hS1 : SlR V (some ⟨q, 0, none⟩) 1 2 [⟨g, A, n, c, m, false⟩] := ⟨rfl, by decide, fun _ => ⟨q, 0, rfl, hB.lt, fun j u hu => by
        have h1 := (hS2.2.2 (by decide))
        obtain ⟨b', off', e, _, h2⟩ := h1
        injection e with e
        injection e with e1 e2
        subst e1 e2
        refine h2 j u ?_
        have hj := (List.getElem?_eq_some_iff.1 hu).1
        have hj4 : j < 4 := hj
        have e5 : cat RawR.cells [(⟨g, A, n, c, m, false⟩ : RawR), ⟨g', A', n', c', m', false⟩] = cat RawR.cells [(⟨g, A, n, c, m, false⟩ : RawR)] ++ cat RawR.cells [⟨g', A', n', c', m', false⟩] := rfl
        rw [e5, List.getElem?_append_left hj]
        exact hu⟩⟩
    have hR1 : RowIs V ⟨g, A, n, c, m, false⟩ anch1 := ⟨rfl, ha⟩
    have hR2 : RowIs V ⟨g', A', n', c', m', false⟩ anch2 := ⟨rfl, hb⟩
    have Ht2 := Lib.hid (tidy_any _ 2 2 4 _ [anch1, anch2] V hS2 (hold_two hR1 hR2) (fun r hr => by
        rcases List.mem_cons.1 hr with rfl | hr
        · exact anch_g1
        · rw [List.mem_singleton.1 hr]
          exact anch_g2) anch_big (by decide))
    have Ht1 := Lib.hid (fun U (pU : Pu V U) => tidy_any _ 1 2 4 _ [anch1] U (hS1.pu pU) (HoldR.one (hR1.pu pU)) (fun r hr => by
        rw [List.mem_singleton.1 hr]
        exact anch_g1) anch_big (by decide))
    have pF := pW.trans hV
    clear hS2 hS1 hR1 hR2 ha hb hB
    go_wp2_with fail
    refine Ht2.out.mono ?_
    rintro e w2 ⟨B2, n2, c2, rfl, p2, -, -⟩
    rw [anch_no]
    go_wp2_with fail
    refine (Ht1.out _ p2).mono ?_
    rintro e w3 ⟨B3, n3, c3, rfl, p3, hyes, -⟩
    rw [anch_yes]
    obtain ⟨L', l', hperm, -, hSl, hHo⟩ := hyes anch_yes
    rw [anch_rows] at hperm
    have hl' := List.perm_singleton.1 hperm
    subst hl'
    have hlen := hSl.len
    have hll := hHo.1
    have hn3 : n3 = 1 := by rw [← hlen, hll]; rfl
    subst hn3
    obtain ⟨q0, hq0⟩ : ∃ q, L'[0]? = some q := ⟨_, List.getElem?_eq_getElem (by omega)⟩
    obtain ⟨b5, off5, rfl, hb5, x0, x1, x2, x3⟩ := SlR.at_ hSl hq0
    have hrow := (hHo.2 0 q0 _ hq0 rfl).is.2
    have Hst := Lib.hid (tstring_any _ 1 anchF w3 hrow (up_from (n := 1) (a := 1) (b := 40000) (by decide) (by decide)) (fun f hf => by
        rw [List.mem_singleton.1 hf]
        exact up_from (n := 1) (a := 1) (b := 40000) (by decide) (by decide)) (by simp [ftext, anchF, t_1]))
    obtain ⟨g0, A0, n0, c0, m0, e0⟩ := q0
    dsimp only [RawR.term] at x0 x1 x2 x3 Hst
    have pE := pF.trans (p2.trans p3)
    clear hrow hSl hHo hperm Ht1 Ht2
    rw [Nat.zero_mul, Nat.add_zero] at x0 x1 x2 x3
    go_wp2_with fail
    refine Hst.out.mono ?_
    rintro e w4 ⟨rfl, p4⟩
    rw [show ttext 1 anchF = [49, 42, 120, 43, 49] from anch_text]
    go_wp2
    go_ret
    exact ⟨rfl, pE.trans p4⟩
end
section
set_option linter.unusedVariables false
open Go.RowKit
theorem addStep_key {n : Int} {acc : List (Key × Int)} {g f : Key × Int} (h : f ∈ addStep n acc g) : f.1 = g.1 ∨ f ∈ acc := by
  unfold addStep at h
  split at h
  · exact .inr (mem_dropM h)
  · rcases mem_putM h with rfl | h
    · exact .inl rfl
    · exact .inr h
theorem addM_key {n : Int} : ∀ (gs fs : List (Key × Int)) (f : Key × Int), f ∈ addM fs gs n → (∃ g ∈ gs, f.1 = g.1) ∨ f ∈ fs
  | [], fs, f, h => .inr h
  | g :: gs, fs, f, h => by
    have h1 : f ∈ addM (addStep n fs g) gs n := h
    rcases addM_key gs _ f h1 with ⟨x, hx, e⟩ | h2
    · exact .inl ⟨x, List.mem_cons_of_mem _ hx, e⟩
    · rcases addStep_key h2 with e | h3
      · exact .inl ⟨g, List.mem_cons_self .., e⟩
      · exact .inr h3
theorem oneM_key {p f : Key × Int} (h : f ∈ oneM p) : f.1 = p.1 := by
  rcases addM_key _ _ _ h with ⟨g, hg, e⟩ | h
  · rw [List.mem_singleton.1 hg] at e
    exact e
  · cases h
theorem oneM_rise (p : Key × Int) : Rise (oneM p) := addM_rise _ _ List.Pairwise.nil
theorem oneM_nz (p : Key × Int) : NZ (oneM p) := addM_nz _ _ List.Pairwise.nil NZ.nil
theorem sumM_ind {C : List (Key × Int) → Prop} : ∀ (ps acc : List (Key × Int)), C acc → (∀ fs p, p ∈ ps → C fs → C (addP fs p)) → C (ps.foldl addP acc)
  | [], acc, h0, _ => h0
  | p :: ps, acc, h0, h => sumM_ind ps _ (h acc p (List.mem_cons_self ..) h0) (fun fs q hq hc => h fs q (List.mem_cons_of_mem _ hq) hc)
theorem sumM_rise (ps : List (Key × Int)) : Rise (sumM ps) := sumM_ind (C := Rise) ps [] List.Pairwise.nil fun fs p _ h => addM_rise _ _ h
theorem sumM_nz (ps : List (Key × Int)) : NZ (sumM ps) :=
  (sumM_ind (C := fun fs => Rise fs ∧ NZ fs) ps [] ⟨List.Pairwise.nil, NZ.nil⟩ fun fs p _ h => ⟨addM_rise _ _ h.1, addM_nz _ _ h.1 h.2⟩).2
theorem sumM_key (ps : List (Key × Int)) : ∀ f ∈ sumM ps, ∃ p ∈ ps, f.1 = p.1 := by
  have := sumM_ind (C := fun fs => ∀ f ∈ fs, ∃ p ∈ ps, f.1 = p.1) ps [] (fun f hf => by cases hf) (fun fs p hp h f hf => by
    rcases addM_key _ _ _ hf with ⟨g, hg, e⟩ | h2
    · exact ⟨p, hp, e.trans (oneM_key hg)⟩
    · exact h f h2)
  exact this
def KK : Nat := 13194139533312
theorem kk_big : Big KK := up_from (n := 13194139533312 + 1100000 * 13194139533312) (a := 3) (b := 30000) (by decide) (by decide)
theorem part_in {p : Key × Int} (h : okPart p = true) : p.2.natAbs ≤ 1099511627776 ∧ p.1.length ≤ 40 ∧ namedM p.1 = true := by
  unfold okPart at h
  simp only [Bool.and_eq_true, decide_eq_true_eq] at h
  exact ⟨inR_abs h.1.1, h.1.2, h.2⟩
theorem okM_in {ps : List (Key × Int)} {rest : Int} (h : okM ps rest = true) : ps.length ≤ 12 ∧ rest.natAbs ≤ 1099511627776 ∧ ∀ p ∈ ps, okPart p = true := by
  unfold okM at h
  simp only [Bool.and_eq_true, decide_eq_true_eq, List.all_eq_true] at h
  exact ⟨h.1.1, inR_abs h.1.2, h.2⟩
theorem sum_upto {ps : List (Key × Int)} {rest : Int} (h : okM ps rest = true) : Upto KK (sumM ps) := by
  obtain ⟨h1, h2, h3⟩ := okM_in h
  have := sumM_upto (M := 1099511627776) ps.length (Nat.le_refl _) (fun p hp => (part_in (h3 p (by simpa using hp))).1)
  rw [List.take_of_length_le (Nat.le_refl _)] at this
  refine this.le ?_
  have := Nat.mul_le_mul_right 1099511627776 h1
  unfold KK
  omega
theorem sum_len {ps : List (Key × Int)} {rest : Int} (h : okM ps rest = true) : (sumM ps).length ≤ 12 := by
  obtain ⟨h1, h2, h3⟩ := okM_in h
  have := sumM_len ps ps.length (Nat.le_refl _)
  rw [List.take_of_length_le (Nat.le_refl _)] at this
  omega
theorem rest_small {z : Int} (h : z.natAbs ≤ 1099511627776) : z.natAbs < 4294967296 ^ 30000 := up_from (n := z.natAbs) (a := 2) (b := 30000) (Nat.lt_of_le_of_lt h (by decide)) (by decide)
theorem row_good {l : LineM} (h : okLine l = true) : Good KK (rowOf l) where
  fs := ⟨sum_upto h, Nat.lt_of_le_of_lt (sum_len h) (by decide), sumM_nz _, fun f hf => by
    obtain ⟨p, hp, e⟩ := sumM_key _ f hf
    have := (part_in ((okM_in h).2.2 p hp)).2.1
    rw [e]
    omega⟩
  rest := rest_small (okM_in h).2.1
theorem named_plain {k : Key} (h : namedM k = true) : ∀ u ∈ k, u ≠ 43 := fun u hu e => by
  unfold namedM at h
  rw [List.all_eq_true] at h
  have := h u hu
  subst e
  revert this
  decide
theorem row_plain {l : LineM} (h : okLine l = true) : Plain (rowOf l).fs := fun f hf => by
  obtain ⟨p, hp, e⟩ := sumM_key _ f hf
  rw [e]
  exact named_plain (part_in ((okM_in h).2.2 p hp)).2.2
theorem okL_in {m : Nat} {ls : List LineM} (h : okL m ls = true) : ls.length ≤ m ∧ ∀ l ∈ ls, okLine l = true := by
  unfold okL at h
  simp only [Bool.and_eq_true, decide_eq_true_eq, List.all_eq_true] at h
  exact h
theorem rows_in {m : Nat} {ls : List LineM} (h : okL m ls = true) : ∀ r ∈ ls.map rowOf, Good KK r ∧ Plain r.fs := fun r hr => by
  obtain ⟨l, hl, rfl⟩ := List.mem_map.1 hr
  have := (okL_in h).2 l hl
  exact ⟨row_good this, row_plain this⟩
theorem tidy_sml {l : List RowM} (h : ∀ r ∈ l, Good KK r) : ∀ r ∈ allRows (learnAll l).2, Sml r := fun r hr => by
  have h1 := (learn_all_good (K := KK) l (true, []) List.Pairwise.nil (fun e he => by cases he) h).2.1
  exact (all_good h1 r hr).sml kk_big
end
end Go.Proofs.YtckfnbckoclhpaaGreatDoor
