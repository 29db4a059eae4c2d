/- zed: long: a division by several words. -/
import Derived.Test.YtckfnbckoclhpaaDoorZLong1
import Derived.Test.YtckfnbckoclhpaaDoorZLong3
import Derived.Test.YtckfnbckoclhpaaDoorShelf
import Derived.Test.YtckfnbckoclhpaaDoorZDiv
import Derived.Deep.RegionHeld3
set_option linter.unusedVariables false
namespace Go.Proofs.YtckfnbckoclhpaaDoor
open Go.RowKit

theorem bitLenAux_lt : ∀ (f x : Nat), x < 2 ^ f → x < 2 ^ Lib.bitLenAux f x
  | 0, x, h => by simpa [Lib.bitLenAux] using h
  | f + 1, x, h => by
    unfold Lib.bitLenAux
    split
    · rename_i e
      subst e
      decide
    · have := bitLenAux_lt f (x / 2) (by rw [Nat.pow_succ] at h; omega)
      rw [Nat.add_comm, Nat.pow_succ]
      omega
theorem bitLenAux_ge : ∀ (f x : Nat), x ≠ 0 → x < 2 ^ f → 2 ^ (Lib.bitLenAux f x - 1) ≤ x
  | 0, x, h0, h => by simp at h; omega
  | f + 1, x, h0, h => by
    unfold Lib.bitLenAux
    rw [if_neg h0]
    rcases Nat.eq_zero_or_pos (x / 2) with e | e
    · rw [e]
      have : Lib.bitLenAux f 0 = 0 := by cases f <;> simp [Lib.bitLenAux]
      rw [this]
      simp
      omega
    · have h1 := bitLenAux_ge f (x / 2) (by omega) (by rw [Nat.pow_succ] at h; omega)
      have h2 : 0 < Lib.bitLenAux f (x / 2) := by
        rcases Nat.eq_zero_or_pos (Lib.bitLenAux f (x / 2)) with e2 | e2
        · have := bitLenAux_lt f (x / 2) (by rw [Nat.pow_succ] at h; omega)
          rw [e2] at this
          omega
        · exact e2
      rw [show 1 + Lib.bitLenAux f (x / 2) - 1 = (Lib.bitLenAux f (x / 2) - 1) + 1 by omega, Nat.pow_succ]
      omega
/-- the shift that a divisor's last word asks for -/
theorem lead_zeros {x : Nat} (h0 : x ≠ 0) (h : x < 4294967296) : 1 ≤ Lib.bitLen x ∧ Lib.bitLen x ≤ 32 ∧ x * 2 ^ (32 - Lib.bitLen x) < 4294967296 := by
  have h1 : x < 2 ^ Lib.bitLen x := bitLenAux_lt 64 x (by omega)
  have h2 : 2 ^ (Lib.bitLen x - 1) ≤ x := bitLenAux_ge 64 x h0 (by omega)
  have h3 : 1 ≤ Lib.bitLen x := by
    rcases Nat.eq_zero_or_pos (Lib.bitLen x) with e | e
    · rw [e] at h1
      omega
    · exact e
  have h4 : Lib.bitLen x ≤ 32 := by
    rcases Nat.lt_or_ge 32 (Lib.bitLen x) with e | e
    · have := Nat.pow_le_pow_right (n := 2) (by omega) (show 32 ≤ Lib.bitLen x - 1 by omega)
      omega
    · exact e
  refine ⟨h3, h4, ?_⟩
  have h5 : x * 2 ^ (32 - Lib.bitLen x) < 2 ^ Lib.bitLen x * 2 ^ (32 - Lib.bitLen x) := Nat.mul_lt_mul_of_pos_right h1 (Nat.pow_pos (by omega))
  rw [← Nat.pow_add, show Lib.bitLen x + (32 - Lib.bitLen x) = 32 by omega] at h5
  exact h5

/-- what is laid ahead of a place of the loop -/
structure LongAt (X Y : Nat) (j N : Nat) (xs qs : List Nat) : Prop where
  len : xs.length = N
  below : Below_ 4294967296 xs
  qbelow : Below_ 4294967296 qs
  val : pval 4294967296 xs + Y * (4294967296 ^ j * pval 4294967296 qs) = X
  rest : pval 4294967296 (xs.drop j) < Y

/-- one place of a long division -/
theorem long_next {X Y j N : Nat} {lo sg h' sg' qs : List Nat} (hY : 0 < Y) (hl : LongAt X Y (j + 1) N (lo ++ (sg ++ h')) qs) (hlo : lo.length = j) (h0 : pval 4294967296 h' = 0) (hlen : sg'.length = sg.length) (hb : Below_ 4294967296 sg') (hv : pval 4294967296 sg' = pval 4294967296 sg % Y) (hlt : pval 4294967296 sg < 4294967296 * Y) :
    LongAt X Y j N (lo ++ (sg' ++ h')) (pval 4294967296 sg / Y :: qs) := by
  have hd : ∀ s : List Nat, (lo ++ (s ++ h')).drop j = s ++ h' := fun s => by rw [← hlo]; simp
  refine ⟨?_, ?_, ?_, ?_, ?_⟩
  · have := hl.len
    simp at this ⊢
    omega
  · intro x hx
    rcases List.mem_append.1 hx with h | h
    · exact hl.below x (by simp [h])
    · rcases List.mem_append.1 h with h | h
      · exact hb x h
      · exact hl.below x (by simp [h])
  · intro x hx
    rcases List.mem_cons.1 hx with rfl | hx
    · exact (Nat.div_lt_iff_lt_mul hY).2 hlt
    · exact hl.qbelow x hx
  · have h1 := hl.val
    have hdm := Nat.div_add_mod (pval 4294967296 sg) Y
    rw [pval_append, pval_append, h0, Nat.mul_zero, Nat.add_zero, hlo] at h1 ⊢
    rw [hv]
    generalize pval 4294967296 sg / Y = d at *
    generalize pval 4294967296 sg % Y = r at *
    rw [← hdm] at h1
    simp only [pval, Nat.pow_succ, Nat.mul_add] at h1 ⊢
    rw [← h1]
    have e1 : 4294967296 ^ j * (Y * d) = Y * (4294967296 ^ j * d) := by rw [Nat.mul_left_comm]
    have e2 : 4294967296 ^ j * 4294967296 * pval 4294967296 qs = 4294967296 ^ j * (4294967296 * pval 4294967296 qs) := by rw [Nat.mul_assoc]
    rw [e1, e2]
    omega
  · rw [hd, pval_append, h0, Nat.mul_zero, Nat.add_zero, hv]
    exact Nat.mod_lt _ hY
end Go.Proofs.YtckfnbckoclhpaaDoor
