/- zed: bits.Add32, bits.Sub32; slices.Clone of words. -/
import Derived.Test.YtckfnbckoclhpaaDoorZMake
import Derived.Lib.SliceRun
set_option linter.unusedVariables false
namespace Go.Proofs.YtckfnbckoclhpaaDoor
open Go.RowKit

theorem add32_any (x y c : Nat) (w : World) (hx : x < 4294967296) (hy : y < 4294967296) (hc : c ≤ 1) :
    Calls Tryd.prog 82 #[.int .u32 (x : Int), .int .u32 (y : Int), .int .u32 (c : Int)] w fun e w' => e = .returned (.tuple #[.int .u32 (((x + y + c) % 4294967296 : Nat) : Int), .int .u32 (((x + y + c) / 4294967296 : Nat) : Int)]) ∧ w = w' := by
  have h1 := u64_small (a := x) (by omega)
  have h2 := u64_small (a := y) (by omega)
  have h3 := u64_small (a := c) (by omega)
  have h4 : IntKind.u64.wrap ((x : Int) + (y : Int)) = (x : Int) + (y : Int) := by rw [IntKind.wrap_u64]; omega
  have h5 : IntKind.u64.wrap ((x : Int) + (y : Int) + (c : Int)) = (x : Int) + (y : Int) + (c : Int) := by rw [IntKind.wrap_u64]; omega
  go_enter Tryd.func82, Tryd.ntmps82
  go_wp2
  go_ret2
  refine ⟨?_, rfl⟩
  show Ending.returned (.tuple #[.int .u32 _, .int .u32 _]) = _
  congr 5 <;> omega

theorem top_bit {v : Nat} (h : v < 4294967296) : v.testBit 31 = decide (2147483648 ≤ v) := by
  rw [Nat.testBit_eq_decide_div_mod_eq, show (2 : Nat) ^ 31 = 2147483648 from rfl]
  rw [Bool.eq_iff_iff, decide_eq_true_iff, decide_eq_true_iff]
  omega
theorem borrow_bits (x y c : Nat) (hx : x < 4294967296) (hy : y < 4294967296) (hc : c ≤ 1) :
    bits BinOp.or IntKind.u32 (bits BinOp.and IntKind.u32 (bits BinOp.xor IntKind.u32 IntKind.u32.max (x : Int)) (y : Int)) (bits BinOp.and IntKind.u32 (bits BinOp.xor IntKind.u32 IntKind.u32.max (bits BinOp.xor IntKind.u32 (x : Int) (y : Int))) (((x : Int) - (y : Int) - (c : Int)) % 4294967296)) / 2147483648 = ((if x < y + c then 1 else 0 : Nat) : Int) := by
  obtain ⟨d, hd, hd2⟩ : ∃ d : Nat, ((x : Int) - (y : Int) - (c : Int)) % 4294967296 = (d : Int) ∧ d = (x + 4294967296 - y - c) % 4294967296 := ⟨_, by omega, rfl⟩
  have hdl : d < 4294967296 := by omega
  have hmax : IntKind.u32.max = ((4294967295 : Nat) : Int) := by decide
  have b1 : 4294967295 ^^^ x < 4294967296 := Nat.xor_lt_two_pow (n := 32) (by omega) (by omega)
  have b2 : x ^^^ y < 4294967296 := Nat.xor_lt_two_pow (n := 32) (by omega) (by omega)
  have b3 : 4294967295 ^^^ (x ^^^ y) < 4294967296 := Nat.xor_lt_two_pow (n := 32) (by omega) (by omega)
  have b4 : (4294967295 ^^^ x) &&& y < 4294967296 := Nat.lt_of_le_of_lt Nat.and_le_right hy
  have b5 : (4294967295 ^^^ (x ^^^ y)) &&& d < 4294967296 := Nat.lt_of_le_of_lt Nat.and_le_right hdl
  rw [hd, hmax, u32_xor_nat 4294967295 x (by omega) hx, u32_and_nat _ y b1 hy, u32_xor_nat x y hx hy, u32_xor_nat 4294967295 _ (by omega) b2, u32_and_nat _ d b3 hdl, u32_or_nat _ _ b4 b5]
  have b6 : ((4294967295 ^^^ x) &&& y) ||| ((4294967295 ^^^ (x ^^^ y)) &&& d) < 4294967296 := Nat.or_lt_two_pow (n := 32) b4 b5
  have hb : (((4294967295 ^^^ x) &&& y) ||| ((4294967295 ^^^ (x ^^^ y)) &&& d)).testBit 31 = decide (x < y + c) := by
    rw [Nat.testBit_or, Nat.testBit_and, Nat.testBit_and, Nat.testBit_xor, Nat.testBit_xor, Nat.testBit_xor, top_bit hx, top_bit hy, top_bit hdl, show (4294967295 : Nat).testBit 31 = true from by decide]
    by_cases c1 : 2147483648 ≤ x <;> by_cases c2 : 2147483648 ≤ y <;> by_cases c3 : x < y + c <;> simp [c1, c2, c3] <;> omega
  rw [top_bit b6] at hb
  generalize ((4294967295 ^^^ x) &&& y) ||| ((4294967295 ^^^ (x ^^^ y)) &&& d) = V at *
  by_cases c3 : x < y + c
  · rw [if_pos c3]
    simp [c3] at hb
    omega
  · rw [if_neg c3]
    simp [c3] at hb
    omega
theorem sub32_any (x y c : Nat) (w : World) (hx : x < 4294967296) (hy : y < 4294967296) (hc : c ≤ 1) :
    Calls Tryd.prog 83 #[.int .u32 (x : Int), .int .u32 (y : Int), .int .u32 (c : Int)] w fun e w' => e = .returned (.tuple #[.int .u32 (((x + 4294967296 - y - c) % 4294967296 : Nat) : Int), .int .u32 ((if x < y + c then 1 else 0 : Nat) : Int)]) ∧ w = w' := by
  have hsg : IntKind.u32.signed = false := rfl
  have hbb := borrow_bits x y c hx hy hc
  generalize (if x < y + c then 1 else 0 : Nat) = B at *
  go_enter Tryd.func83, Tryd.ntmps83
  go_wp2
  go_ret2
  refine ⟨?_, rfl⟩
  show Ending.returned (.tuple #[.int .u32 _, .int .u32 _]) = _
  congr 5
  omega

set_option maxRecDepth 100000 in
theorem clone_words (A : Option Addr) (n c : Nat) (l : List Nat) (w : World) (h : Sl w 1 A n c (wds l)) (hn : n ≤ 1000000) :
    Calls Tryd.prog 52 #[.slice A n c] w fun e w' => ∃ A' c', e = .returned (.slice A' n c') ∧ w'.ownsRow w.heap.size 67 1 (.slice A' n c') n (wds l) ∧ Pu w w' := by
  have hl := h.wlen
  have q : ∀ (w : World) (a : Option Addr) (n c n' c' : Nat), (binOp .eql 23 (.slice a n c) (.slice none n' c')).run Tryd.prog w = .ok (.bool a.isNone) w := fun w a n c n' c' => Lib.run_eql_slice_nil w _ _ a n c n' c' Tryd.underlying23
  have hone : ∀ u ∈ wds l, u.oneCell' = true := by
    intro u hu
    simp only [wds, List.mem_map] at hu
    obtain ⟨x, _, rfl⟩ := hu
    rfl
  rcases A with _ | a
  · have h0 : n = 0 := by
      rcases Nat.eq_zero_or_pos n with h0 | h0
      · exact h0
      · obtain ⟨b, off, e, _⟩ := h.2.2 h0
        cases e
    subst h0
    obtain rfl : l = [] := List.eq_nil_of_length_eq_zero hl
    go_enter Tryd.func52, Tryd.ntmps52
    go_wp2
    go_ret
    exact ⟨none, 0, rfl, World.ownsRow_nil _ _ _ _, Pu.refl _⟩
  · have hE : (w.alloc (.cells #[] 67)).ownsRow w.heap.size 67 1 (.slice (some ⟨w.heap.size, 0, none⟩) 0 0) 0 [] := World.ownsRow_made w #[] 0 (Nat.le_refl _) (Nat.zero_le _) rfl
    go_enter Tryd.func52, Tryd.ntmps52
    go_wp2_with (at_builtin; refine wpList_app eiU32 rfl (.tmp 5) (.tmp 6) rfl rfl rfl hE (h.pu ((Pu.refl _).alloc _)) hone (by simp [maxLen]; omega) (by omega) (by simp) ?_)
    intro A1 c1 w2 hown hg
    have hP := pu_push ((Pu.refl w).alloc _) hE (Nat.le_refl _) hg
    go_wp2
    go_ret
    exact ⟨A1, c1, rfl, by simpa using hown, hP⟩
end Go.Proofs.YtckfnbckoclhpaaDoor
