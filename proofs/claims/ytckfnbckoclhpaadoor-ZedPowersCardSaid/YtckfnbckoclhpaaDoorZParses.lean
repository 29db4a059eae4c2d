/- ZedParses, the walk. -/
import Derived.Test.YtckfnbckoclhpaaDoorZAnch
import Derived.Test.YtckfnbckoclhpaaDoorRefZ1
set_option linter.unusedVariables false
namespace Go.Proofs.YtckfnbckoclhpaaDoor
open Go.RowKit

theorem pres_small (s : List UInt8) : (pres s).natAbs < 10 ^ 60 := by
  unfold pres
  split
  · rename_i h
    unfold pcode at h
    split at h
    · cases h
    · split at h
      · rename_i hl hg
        rw [pnum_sign]
        unfold goodDigs at hg
        simp only [Bool.and_eq_true] at hg
        exact Nat.lt_of_lt_of_le (nval_lt hg.1.2) (Nat.pow_le_pow_right (by omega) (by omega))
      · cases h
  · decide
theorem sixty_up {n : Nat} (h : n < 10 ^ 60) (k : Nat) (hk : 7 ≤ k) : n < 4294967296 ^ k :=
  Nat.lt_of_lt_of_le (Nat.lt_of_lt_of_le h (show 10 ^ 60 ≤ 4294967296 ^ 7 by decide)) (Nat.pow_le_pow_right (by decide) hk)

set_option maxHeartbeats 4000000 in
set_option maxRecDepth 100000 in
theorem parses_walk (w : World) (s : List UInt8) (hs : s.length ≤ 9223372036854775807) :
    Calls Tryd.prog 4 #[.string ⟨s.toArray⟩] w fun e w' => e = .returned (.bool true) ∧ Pu w w' := by
  have ha := anchor_any w
  have hsz : (⟨s.toArray⟩ : ByteArray).size = s.length := by simp [ByteArray.size]
  by_cases hl : 200 < s.length
  · go_enter Tryd.func4, Tryd.ntmps4
    go_wp2_with fail
    refine ha.mono ?_
    rintro e w1 ⟨rfl, p1⟩
    go_wp2
    go_ret
    exact ⟨rfl, p1⟩
  · go_enter Tryd.func4, Tryd.ntmps4
    go_wp2_with fail
    refine ha.mono ?_
    rintro e w1 ⟨rfl, p1⟩
    go_wp2_with fail
    refine (parse_any s _).mono ?_
    rintro e w2 ⟨v2, rfl, h2, p2⟩
    have h2' := h2
    obtain ⟨g2, A2, n2, c2, l2, rfl, -⟩ := h2'
    have kA : Blk (w2.alloc (.cells #[.bool g2, .slice A2 n2 c2] 25)) w2.heap.size 25 #[.bool g2, .slice A2 n2 c2] := Blk.new _ _ _
    have q2 : Pu w2 (w2.alloc (.cells #[.bool g2, .slice A2 n2 c2] 25)) := (Pu.refl _).alloc _
    replace h2 := h2.pu q2
    have P2 := (p1.trans p2).trans q2
    have hr := rparse_any s (w2.alloc (.cells #[.bool g2, .slice A2 n2 c2] 25)) hs
    clear p1 p2 q2 ha
    go_wp2_with fail
    refine hr.mono ?_
    rintro e w3 ⟨v3, rfl, h3, p3⟩
    have h3' := h3
    obtain ⟨A3, n3, c3, l3, rfl, -⟩ := h3'
    replace h2 := h2.pu p3
    replace kA := kA.pu p3
    have kB : Blk (w3.alloc (.cells #[.int .i64 (pres s).sign, .slice A3 n3 c3] 39)) w3.heap.size 39 #[.int .i64 (pres s).sign, .slice A3 n3 c3] := Blk.new _ _ _
    have q3 : Pu w3 (w3.alloc (.cells #[.int .i64 (pres s).sign, .slice A3 n3 c3] 39)) := (Pu.refl _).alloc _
    replace h2 := h2.pu q3
    replace kA := kA.pu q3
    have P3 := (P2.trans p3).trans q3
    have hb := sixty_up (pres_small s) 1000 (by decide)
    by_cases hc : pcode s = 0
    · have hps : pres s = pnum s := by unfold pres; rw [if_pos hc]
      have htx := text_back hc
      have hstr := fun W h => string_any (.agg #[.bool g2, .slice A2 n2 c2]) (pres s) W h hb
      have hsgn := fun W h => sign_any (.agg #[.bool g2, .slice A2 n2 c2]) (pres s) W h hb
      rw [hps, htx] at hstr
      rw [← hps] at hstr
      have Hstr := Lib.hid hstr
      have Hsgn := Lib.hid hsgn
      rw [hc]
      have a0 := kA.cell 0
      have a1 := kA.cell 1
      clear hstr hsgn htx hps hb
      have hP : Pu (w3.alloc (.cells #[.int .i64 (pres s).sign, .slice A3 n3 c3] 39)) (w3.alloc (.cells #[.int .i64 (pres s).sign, .slice A3 n3 c3] 39)).drew := (Pu.refl _).drew
      go_wp2_with fail
      go_region_with (first
        | (go_at_call 19; refine (Hstr.out _ (h2.pu hP)).mono ?_; rintro e u1 ⟨rfl, q1⟩; replace hP := hP.trans q1; replace a0 := (kA.pu hP).cell 0; replace a1 := (kA.pu hP).cell 1; have b0 := (kB.pu hP).cell 0)
        | (go_at_call 18; refine (Hsgn.out _ (h2.pu hP)).mono ?_; rintro e u2 ⟨rfl, q1⟩; replace hP := hP.trans q1; replace b0 := (kB.pu hP).cell 0))
      all_goals
        have PP := P3.trans hP
        go_wp2
        go_ret
        exact ⟨rfl, PP⟩
    · have hps : pres s = 0 := by unfold pres; rw [if_neg hc]
      have hsgn := sign_any (.agg #[.bool g2, .slice A2 n2 c2]) (pres s) _ h2 hb
      have e0 : (pres s).sign = 0 := by rw [hps]; rfl
      rw [e0] at hsgn
      have hc2 : (((pcode s : Nat) : Int) == 0) = false := by simp; omega
      have hc3 : ¬ ((pcode s : Nat) : Int) = 0 := by omega
      have a0 := kA.cell 0
      have a1 := kA.cell 1
      rw [e0] at a0 a1 P3
      have Hsgn := Lib.hid hsgn
      rw [e0]
      clear hsgn hb h3 h2 kB e0 hps
      go_wp2_with fail
      refine Hsgn.out.mono ?_
      rintro e w4 ⟨rfl, p4⟩
      have PP := P3.trans p4
      go_wp2
      go_ret
      exact ⟨rfl, PP⟩
end Go.Proofs.YtckfnbckoclhpaaDoor
