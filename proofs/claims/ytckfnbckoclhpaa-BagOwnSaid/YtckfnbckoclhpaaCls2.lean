/- Classes: NewClasses. -/
import Derived.Test.YtckfnbckoclhpaaCls
import Derived.Test.YtckfnbckoclhpaaSetI
set_option linter.unusedVariables false
namespace Go.Proofs.Ytckfnbckoclhpaa
open Go.RowKit

theorem eiInt : ElemI Try.prog 28 3 (.int .i64 0) 1 8 := ⟨Try.underlying28, by kernel_rfl, rfl, by decide⟩

set_option maxRecDepth 100000 in
theorem new_in (n : Nat) (w : World) (hn : n ≤ 65536) :
    Calls Try.prog 10 #[.int .i64 n] w fun e w' => ∃ b, e = .returned (.tuple #[.pointer (some ⟨b, 0, none⟩), .int .i64 0]) ∧ Cls w.heap.size w'.heap.size w' b n id n ∧ Pu w w' := by
  have h7 : decide ((n : Int) < 0) = false := by simp
  have h10 : decide ((65536 : Int) < n) = false := by simp; omega
  go_enter Try.func10, Try.ntmps10
  go_wp2_with fail
  go_loopw [16] (fun v wr => ∃ (k : Nat) (A : Option Addr) (c : Nat), k ≤ n ∧ v = .int .i64 k ∧ Blk wr w.heap.size 80 #[.slice A k c, .int .i64 n] ∧ wr.ownsRow (w.heap.size + 1) 3 1 (.slice A k c) k (ivs ((List.range k).map Int.ofNat)) ∧ Pu w wr) (fun v _ => n - (intOf v).toNat)
  case atStart => exact ⟨0, none, 0, Nat.zero_le _, rfl, Blk.new _ _ _, World.ownsRow_nil _ _ _ _, (Pu.refl w).alloc _⟩
  case round =>
    obtain ⟨k, A, c, hk, rfl, hb, hown, hP⟩ := hrel
    by_cases hlt : k < n
    · have cb : wr.cell? ⟨w.heap.size, 0, none⟩ = some (.slice A k c) := hb.cell 0
      have hs := hb.lt
      go_wp2_with (at_builtin; refine wpList_push eiInt rfl _ _ rfl #[.int .i64 k] rfl (by simp [Value.oneCell']) rfl rfl hown (by simp [maxLen]; omega) (by omega) (by omega) ?_)
      intro A' c' w1 hown1 hg1
      have hP1 := pu_push hP hown (by omega) hg1
      have hb1 := blk_push hb hown (by omega) hg1
      have cb1 : w1.cell? ⟨w.heap.size, 0, none⟩ = some (.slice A k c) := hb1.cell 0
      have fb1 : w1.frozen? ⟨w.heap.size, 0, none⟩ = false := hb1.frozen 0
      clear hb hown hP cb hg1
      go_wp2
      go_roundw
      case rel => exact ⟨k + 1, A', c', by omega, by go_num, hb1.set_ 0 _, by
        rw [List.range_succ, List.map_append]
        have := own_fr hown1 (Fr.one w1 w.heap.size 0 (.slice A' (k + 1) c')) (fun g hg => by have := (hown1.lt g hg).1; omega)
        simpa using this, hP1.setCell (Nat.le_refl _) _⟩
      case measure => simp [intOf]; omega
    · go_wp2
      go_ret2
      obtain rfl : k = n := by omega
      refine ⟨w.heap.size, rfl, ?_, hP⟩
      rcases hown.2 with ⟨hv, h0⟩ | ⟨g, cap, cur, hv, hbase, hbk, h1, h2, h3, h4⟩
      · exact ⟨A, 0, c, #[], ⟨Nat.le_refl _, hb.lt⟩, hb, fun h => by omega, fun i => Nat.le_refl i⟩
      · injection hv with hA _ hc
        subst hA hc
        refine ⟨_, g, c, cur, ⟨Nat.le_refl _, hb.lt⟩, hb, fun _ => ⟨rfl, ⟨by omega, Blk.lt hbk⟩, hbk, fun i hi => ?_⟩, fun i => Nat.le_refl i⟩
        have h5 : (cur.toList.take (k * 1))[i]? = (ivs ((List.range k).map Int.ofNat))[i]? := by rw [h4]
        rw [List.getElem?_take_of_lt (by omega), Array.getElem?_toList] at h5
        rw [h5]
        simp [hi]

set_option maxRecDepth 100000 in
theorem new_out (n : Int) (w : World) (hn : n < 0 ∨ 65536 < n) :
    Calls Try.prog 10 #[.int .i64 n] w fun e w' => e = .returned (.tuple #[.pointer none, .int .i64 12]) ∧ w = w' := by
  rcases hn with h | h
  · go_enter Try.func10, Try.ntmps10
    go_wp2
    go_ret2
    exact ⟨rfl, rfl⟩
  · have h' : ¬ n < 0 := by omega
    go_enter Try.func10, Try.ntmps10
    go_wp2
    go_ret2
    exact ⟨rfl, rfl⟩
end Go.Proofs.Ytckfnbckoclhpaa
