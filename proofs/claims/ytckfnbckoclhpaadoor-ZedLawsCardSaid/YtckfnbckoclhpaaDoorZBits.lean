/- zed: two words as one number of 64 bits: or. -/
import Derived.Test.YtckfnbckoclhpaaDoorBase
import Derived.Laws.BitsAllLaws
set_option linter.unusedVariables false
namespace Go.Proofs.YtckfnbckoclhpaaDoor

theorem lor_hi (a b : Nat) (h : a < 4294967296) : a ||| (b * 4294967296) = b * 4294967296 + a := by
  have e : (4294967296 : Nat) = 2 ^ 32 := rfl
  rw [e] at h ⊢
  rw [Nat.or_comm, ← Nat.shiftLeft_eq, Nat.shiftLeft_add_eq_or_of_lt h]
theorem or_hi (a b : Nat) (ha : a < 4294967296) (hb : b < 4294967296) : bits BinOp.or IntKind.u64 (a : Int) ((b : Int) * 4294967296) = (b : Int) * 4294967296 + (a : Int) := by
  have e : ((b : Int) * 4294967296) = ((b * 4294967296 : Nat) : Int) := by omega
  rw [e, u64_or_nat a (b * 4294967296) (by omega) (by omega), lor_hi a b ha]
  omega
theorem or_lo (a b : Nat) (ha : a < 4294967296) (hb : b < 4294967296) : bits BinOp.or IntKind.u64 ((b : Int) * 4294967296) (a : Int) = (b : Int) * 4294967296 + (a : Int) := by
  have e : ((b : Int) * 4294967296) = ((b * 4294967296 : Nat) : Int) := by omega
  rw [e, u64_or_nat (b * 4294967296) a (by omega) (by omega), Nat.or_comm, lor_hi a b ha]
  omega
theorem or_nought (a : Nat) (ha : a < 4294967296) : bits BinOp.or IntKind.u64 0 (a : Int) = (a : Int) := by
  have := or_lo a 0 ha (by omega)
  simpa using this
theorem u64_small {a : Nat} (h : a < 18446744073709551616) : IntKind.u64.wrap (a : Int) = (a : Int) := by rw [IntKind.wrap_u64]; omega
theorem u64_shl {a : Nat} (h : a < 4294967296) : IntKind.u64.wrap ((a : Int) * 4294967296) = (a : Int) * 4294967296 := by rw [IntKind.wrap_u64]; omega
theorem u32_low (a : Nat) : IntKind.u32.wrap (a : Int) = ((a % 4294967296 : Nat) : Int) := by rw [IntKind.wrap_u32]; omega
theorem u32_small {a : Nat} (h : a < 4294967296) : IntKind.u32.wrap (a : Int) = (a : Int) := by rw [IntKind.wrap_u32]; omega
end Go.Proofs.YtckfnbckoclhpaaDoor
