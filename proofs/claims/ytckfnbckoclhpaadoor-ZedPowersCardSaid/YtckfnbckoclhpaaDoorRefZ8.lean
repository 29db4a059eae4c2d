/- The document's numbers: From. -/
import Derived.Test.YtckfnbckoclhpaaDoorRefZ6
set_option linter.unusedVariables false
namespace Go.Proofs.YtckfnbckoclhpaaDoor
open Go.RowKit

set_option maxHeartbeats 1500000 in
set_option maxRecDepth 100000 in
theorem rfrom_any (z : Int) (w : World) (hz : z.natAbs ≤ 1000000) :
    Calls Tryd.prog 55 #[.int .i64 z] w fun e w' => ∃ v, e = .returned v ∧ RZ w' v z ∧ Pu w w' := by
  have hW : Pu w (w.alloc (.cells #[.int .i64 0, .slice none 0 0] 39)) := (Pu.refl w).alloc _
  have kA : Blk (w.alloc (.cells #[.int .i64 0, .slice none 0 0] 39)) w.heap.size 39 #[.int .i64 0, .slice none 0 0] := Blk.new _ _ _
  obtain ⟨N, hN⟩ : ∃ N : Nat, N = z.natAbs := ⟨_, rfl⟩
  have hsig : (decide (z < 0) = true ∧ IntKind.i64.wrap (-z) = (N : Int) ∧ Hid ((-1 : Int) * (N : Int) = z)) ∨ (decide (z < 0) = false ∧ z = (N : Int) ∧ Hid ((1 : Int) * (N : Int) = z)) := by
    rcases Int.lt_or_le z 0 with h | h
    · exact .inl ⟨by simp; omega, (IntWalk.i64_in _ (by omega)).trans (by omega), Lib.hid (by omega)⟩
    · exact .inr ⟨by simp; omega, by omega, Lib.hid (by omega)⟩
  have hN6 : N ≤ 1000000 := by omega
  have HN := Lib.hid hN
  clear hN hz
  rcases hsig with ⟨d1, hw1, HZ⟩ | ⟨d1, hw1, HZ⟩
  all_goals
    (try subst hw1)
    go_enter Tryd.func55, Tryd.ntmps55
    go_wp2_with fail
    go_loopw [0, 4] (fun nv dv ws => ∃ (k n1 c1 : Nat) (A1 : Option Addr) (ds : List Nat), nv = .int .i64 (k : Int) ∧ dv = .slice A1 n1 c1 ∧ ds.length = n1 ∧ n1 + k ≤ 1000000 ∧ Below_ 10 ds ∧ pval 10 ds + 10 ^ n1 * k = N ∧ ws.ownsRow (w.heap.size + 1) 3 1 (.slice A1 n1 c1) n1 (dws ds) ∧ Pu (w.alloc (.cells #[.int .i64 0, .slice none 0 0] 39)) ws) (fun nv _ _ => (intOf nv).toNat)
    case atStart => exact ⟨N, 0, 0, none, [], rfl, rfl, rfl, by omega, Below_.nil _, by simp [pval], World.ownsRow_nil _ _ _ _, Pu.refl _⟩
    case round =>
      obtain ⟨k, n1, c1, A1, ds, rfl, rfl, hl, hk, hb, hv, ho, hP⟩ := hrel
      have HV := Lib.hid hv
      clear hv
      have hsz : w.heap.size + 1 ≤ wr.heap.size := by simpa using hP.size
      rcases Nat.eq_zero_or_pos k with e | hk0
      · subst e
        have hv0 : pval 10 ds = N := by have := HV.out; omega
        have hle := own_le ho
        have hmd := fun s hs => rmade_any s A1 n1 c1 ds wr (Sl.of_own ho) (by omega) hle.2 hb (IntAt.of_own ho) hs
        rw [hv0] at hmd
        have Hmd := Lib.hid hmd
        have kA2 := kA.pu hP
        have PW := hW.trans hP
        clear hmd hv0 ho
        go_wp2_with fail
        refine (Hmd.out _ (by omega)).mono ?_
        rintro e w3 ⟨v', rfl, hz', p3⟩
        rw [HZ.out] at hz'
        have hR1 := kA2.pu p3
        obtain ⟨σ', A', n', c', rfl⟩ : ∃ σ A n c, v' = .agg #[.int .i64 σ, .slice A n c] := by
          obtain ⟨A, n, c, l, rfl, -⟩ := hz'
          exact ⟨_, A, n, c, rfl⟩
        have q0 : w3.cell? ⟨w.heap.size, 0, none⟩ = some (.int .i64 0) := hR1.cell 0
        have q1 : w3.cell? ⟨w.heap.size, 1, none⟩ = some (.slice none 0 0) := hR1.cell 1
        have f0 : w3.frozen? ⟨w.heap.size, 0, none⟩ = false := hR1.frozen 0
        have f1 : w3.frozen? ⟨w.heap.size, 1, none⟩ = false := hR1.frozen 1
        obtain ⟨r0, r1, rp, rf⟩ := store_rz hR1 σ' A' n' c'
        have hfin := rf _ _ hz'
        have PP := rp _ (PW.trans p3) (Nat.le_refl _)
        go_wp2
        exact bodyPost_ret (v := .agg #[.int .i64 σ', .slice A' n' c']) (by simp [results, Tryd.results55, go_sem, r0, r1]) rfl ⟨_, rfl, hfin, PP⟩
      · have e1 : (k : Int) % 10 = ((k % 10 : Nat) : Int) := by omega
        have e2 : (k : Int) / 10 = ((k / 10 : Nat) : Int) := by omega
        have hdm := Nat.div_add_mod k 10
        have hr := Nat.mod_lt k (show 10 > 0 by omega)
        have hq : k / 10 < k := by omega
        generalize k / 10 = q at *
        generalize k % 10 = r at *
        have Hdm := Lib.hid hdm
        clear hdm
        go_wp2_with (at_builtin; refine wpList_push eiInt rfl (.tmp 11) (.tmp 14) rfl #[.int .i64 (r : Int)] rfl (by simp [Value.oneCell']) rfl rfl ho (by simp [maxLen]; omega) (by omega) hsz ?_)
        intro A3 c3 w3 ho3 hg3
        have hP3 := hP.grown hg3 (fun k hk => by have := (ho.lt k hk).1; simpa using this)
        have ho4 := own_dsnoc ho3
        clear ho hg3 ho3 hsz
        go_wp2
        go_roundw
        case rel => exact ⟨q, n1 + 1, c3, A3, ds ++ [r], rfl, rfl, by simp [hl], by omega, hb.snoc hr, by
          rw [← HV.out, pval_snoc, hl, Nat.pow_succ, ← Hdm.out, Nat.mul_add, Nat.mul_assoc]
          omega, ho4, hP3⟩
        case measure => simp [intOf]; omega
end Go.Proofs.YtckfnbckoclhpaaDoor
