/- Index into a string whose bytes are a list. No program in sight. -/
import Derived.WalkKit
import Derived.Laws.Entries
set_option linter.unusedVariables false
namespace Go.Proofs.YtckfnbckoclhpaaDoor

theorem bytes_get (s : List UInt8) (j : Nat) : (⟨s.toArray⟩ : ByteArray)[j]? = s[j]? := by
  rcases Nat.lt_or_ge j s.length with h | h
  · rw [List.getElem?_eq_getElem h, getElem?_pos (⟨s.toArray⟩ : ByteArray) j (by simpa [ByteArray.size] using h)]
    rfl
  · rw [List.getElem?_eq_none h, getElem?_neg (⟨s.toArray⟩ : ByteArray) j (by simp [ByteArray.size]; omega)]
theorem index_str {P : Program} {t : TypeId} {k : IntKind} (s : List UInt8) (j : Nat) (c : UInt8) (h : s[j]? = some c) (ht : P.underlying t = some .string) (W : World) : (Instr.index t (.string ⟨s.toArray⟩) (.int k (j : Int))).run P W = .ok (.int .u8 (c.toNat : Int)) W := by
  have hb := bytes_get s j
  rw [h] at hb
  unfold Instr.index
  simp only [asIntOf, Sem.run_bind, Sem.run_pure, Result.andThen_ok, run_underlying ht]
  have h0 : (0 : Int) ≤ (j : Int) := by omega
  simp [h0, hb]
end Go.Proofs.YtckfnbckoclhpaaDoor
