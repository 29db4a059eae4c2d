/- zed: Small. -/
import Derived.Test.YtckfnbckoclhpaaDoorZed4
import Derived.Test.YtckfnbckoclhpaaDoorZBits
set_option linter.unusedVariables false
namespace Go.Proofs.YtckfnbckoclhpaaDoor
open Go.RowKit

set_option maxHeartbeats 1000000 in
set_option maxRecDepth 100000 in
theorem small_any (v : Value) (z : Int) (w : World) (h : ZR w v z) (hz : z.natAbs < 18446744073709551616) :
    Calls Tryd.prog 13 #[v] w fun e w' => e = .returned (if z.natAbs ≤ 4611686018427387904 then .tuple #[.int .i64 z, .bool true] else .tuple #[.int .i64 0, .bool false]) ∧ Pu w w' := by
  obtain ⟨g, A, n, c, l, rfl, hs, hb, ht, hg, hc, rfl⟩ := h
  rw [sgn_abs] at hz ⊢
  have hn := tidy_len ht (k := 2) (by rw [show (4294967296 : Nat) ^ 2 = 18446744073709551616 from rfl]; exact hz)
  have hl := hs.wlen
  have hW : Pu w (w.alloc (.cells #[.bool g, .slice A n c] 25)) := (Pu.refl w).alloc _
  have hS := hs.pu hW
  have key : ∀ r, (if pval 4294967296 l ≤ 4611686018427387904 then Value.tuple #[.int .i64 (sgn g (pval 4294967296 l)), .bool true] else .tuple #[.int .i64 0, .bool false]) = r → Calls Tryd.prog 13 #[.agg #[.bool g, .slice A n c]] w fun e w' => e = .returned r ∧ Pu w w' := by
    intro r hr
    have Hr := Lib.hid hr
    clear hr
    go_enter Tryd.func13, Tryd.ntmps13
    go_wp2_with fail
    go_loopw [4, 14] (fun a v ws => ∃ j acc : Nat, j ≤ n ∧ v = .int .i64 j ∧ a = .int .u64 (acc : Int) ∧ acc = pval 4294967296 (l.take j) ∧ Pu (w.alloc (.cells #[.bool g, .slice A n c] 25)) ws) (fun _ v _ => n - (intOf v).toNat)
    case atStart => exact ⟨0, 0, Nat.zero_le _, rfl, rfl, by simp [pval], Pu.refl _⟩
    case round =>
      obtain ⟨j, acc, hj, rfl, rfl, ha, hP⟩ := hrel
      have Ha := Lib.hid ha
      clear ha
      by_cases hlt : j < n
      · obtain ⟨x, hx⟩ : ∃ x, l[j]? = some x := ⟨_, List.getElem?_eq_getElem (by omega)⟩
        have hxb := hb x (List.mem_of_getElem? hx)
        obtain ⟨b, o, ea, hbw, hc0⟩ := (hS.pu hP).wat hx
        subst ea
        have Hx := Lib.hid hx
        clear hx
        have hx64 := u64_small (a := x) (by omega)
        rcases (show j = 0 ∨ j = 1 by omega) with rfl | rfl
        · simp only [Nat.add_zero] at hc0
          obtain rfl : acc = 0 := by rw [Ha.out]; rfl
          have ho := or_nought x hxb
          go_wp2
          go_roundw
          case rel => exact ⟨1, x, by omega, rfl, rfl, by rw [List.take_add_one, Hx.out]; simp [pval], hP⟩
          case measure => simp [intOf]; omega
        · have hacc : acc < 4294967296 := by
            rw [Ha.out]
            have := pval_lt (hb.take 1)
            rw [List.length_take] at this
            have h2 : 4294967296 ^ min 1 l.length = 4294967296 := by rw [Nat.min_eq_left (by omega)]
            omega
          have ho := or_hi acc x hacc hxb
          have hsh := u64_shl hxb
          go_wp2
          go_roundw
          case rel => exact ⟨2, acc + 4294967296 * x, by omega, rfl, by congr 1; omega, by rw [List.take_add_one, Hx.out, pval_append, ← Ha.out, List.length_take, Nat.min_eq_left (by omega)]; simp [pval], hP⟩
          case measure => simp [intOf]; omega
      · obtain rfl : j = n := by omega
        have hacc : acc = pval 4294967296 l := by rw [Ha.out, List.take_of_length_le (by omega)]
        rw [← hacc] at Hr hz
        have Hacc := Lib.hid hacc
        clear hacc
        by_cases hbig : acc ≤ 4611686018427387904
        · have d1 : decide ((acc : Int) > 4611686018427387904) = false := by simp; omega
          have d2 : decide ((4611686018427387904 : Int) < (acc : Int)) = false := by simp; omega
          have hw1 : IntKind.i64.wrap (acc : Int) = (acc : Int) := IntWalk.i64_in _ (by omega)
          have hw2 : IntKind.i64.wrap (-(acc : Int)) = -(acc : Int) := IntWalk.i64_in _ (by omega)
          have cb : wr.cell? ⟨w.heap.size, 0, none⟩ = some (.bool g) := ((Blk.new w _ _).pu hP).cell 0
          have er := Hr.out
          rw [if_pos hbig] at er
          subst er
          cases g
          · go_wp2
            go_ret2
            exact ⟨rfl, hW.trans hP⟩
          · go_wp2
            go_ret2
            exact ⟨rfl, hW.trans hP⟩
        · have d1 : decide ((acc : Int) > 4611686018427387904) = true := by simp; omega
          have d2 : decide ((4611686018427387904 : Int) < (acc : Int)) = true := by simp; omega
          have er := Hr.out
          rw [if_neg hbig] at er
          subst er
          go_wp2
          go_ret2
          exact ⟨rfl, hW.trans hP⟩
  exact key _ rfl
end Go.Proofs.YtckfnbckoclhpaaDoor
