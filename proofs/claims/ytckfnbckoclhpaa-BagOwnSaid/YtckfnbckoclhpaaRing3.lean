/- Rows of int in a ring: All. -/
import Derived.Test.YtckfnbckoclhpaaRing2
import Derived.Deep.RegionLaw
set_option linter.unusedVariables false
namespace Go.Proofs.Ytckfnbckoclhpaa
open Go.RowKit

set_option maxHeartbeats 1600000 in
set_option maxRecDepth 100000 in
theorem rall_any (b g : Nat) (l : List Int) (w : World) (h : RowR w b g l) :
    Calls Try.prog 24 #[.pointer (some ⟨b, 0, none⟩)] w fun e w' => ∃ A n c, e = .returned (.slice A n c) ∧ w'.ownsRow w.heap.size 3 1 (.slice A n c) n (ivs l) ∧ Pu w w' := by
  obtain ⟨c2, _, hl6, hbl⟩ := h.count
  go_enter Try.func24, Try.ntmps24
  go_wp2_with fail
  go_loopw [3, 9] (fun s v wr => ∃ (k : Nat) (A : Option Addr) (c : Nat), k ≤ l.length ∧ v = .int .i64 k ∧ s = .slice A k c ∧ wr.ownsRow w.heap.size 3 1 (.slice A k c) k (ivs (l.take k)) ∧ Pu w wr) (fun _ v _ => l.length - (intOf v).toNat)
  case atStart => exact ⟨0, none, 0, Nat.zero_le _, rfl, rfl, World.ownsRow_nil _ _ _ _, Pu.refl w⟩
  case round =>
    obtain ⟨k, A, c, hk, rfl, rfl, hown, hP⟩ := hrel
    have hR := h.pu hP
    by_cases hlt : k < l.length
    · rcases hR with ⟨rfl, _⟩ | ⟨rl, f, cs, hc⟩
      · simp at hlt
      obtain ⟨x, hx⟩ : ∃ x, l[k]? = some x := ⟨_, List.getElem?_eq_getElem hlt⟩
      have hle := hc.le
      have hfl := hc.fl
      have hlen := hc.len
      have c0 : wr.cell? ⟨b, 0, none⟩ = some (.slice (some ⟨g, 0, none⟩) rl rl) := hc.row.cell 0
      have g0 : wr.cell? ⟨g, (f + k) % rl, none⟩ = some (.int .i64 x) := (hc.ring.cell _).trans (hc.has k x hx)
      have gm : (f + k) % rl < rl := Nat.mod_lt _ (by omega)
      have htake : ivs (l.take (k + 1)) = ivs (l.take k) ++ [.int .i64 x] := by
        rw [List.take_add_one, hx]
        simp [ivs]
      have hrow := hc.row
      have hgl := hc.ring.lt
      have hbr := hc.row.lt
      have hsz := hP.size
      have HT := Lib.hid htake
      generalize hq : (f + k) % rl = q at *
      have Hq := Lib.hid hq
      have Hx := Lib.hid hx
      clear hq hx htake hc c2
      go_wp2_with fail
      go_region_law (first
        | (refine step_push eiInt rfl (.tmp 12) (.tmp 22) rfl #[.int .i64 x] rfl (by simp [Value.oneCell']) (by simp [Act.eval]) (by simp [Act.eval]) (own_pu hown (by repeat (first | exact Pu.refl _ | apply Pu.drewN | apply Pu.drew))) (by simp [maxLen]; omega) (by omega) (by simp; omega) ?_; intro A2 c2 w2 ho2 hg2)
        | (go_simp; go_wp2_with (go_at_call 54; refine (at_q b _ rl rl f k l.length q _ hrow.drew (by omega) (by omega) hfl (by omega) Hq).mono ?_; rintro e w' ⟨rfl, qq, rfl⟩)))
      all_goals
        have hP1 := pu_push (hP.drewN (1 + qq)) (own_pu hown ((Pu.refl wr).drewN _)) (Nat.le_refl _) hg2
        go_wp2
        go_roundw
        case rel => exact ⟨k + 1, A2, c2, by omega, by go_num, rfl, by rw [HT.out]; simpa using ho2, hP1⟩
        case measure => simp [intOf]; omega
    · go_wp2
      go_ret
      obtain rfl : k = l.length := by omega
      exact ⟨A, _, c, rfl, by simpa using hown, hP⟩

end Go.Proofs.Ytckfnbckoclhpaa
