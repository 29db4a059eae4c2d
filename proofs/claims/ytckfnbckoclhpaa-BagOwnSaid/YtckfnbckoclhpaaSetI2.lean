/- Sets of int: Items, Len. -/
import Derived.Test.YtckfnbckoclhpaaSetI
set_option linter.unusedVariables false
namespace Go.Proofs.Ytckfnbckoclhpaa
open Go.RowKit

set_option maxRecDepth 100000 in
theorem items_int (A : Option Addr) (n c : Nat) (zs : List Int) (w : World) (h : Sl w 1 A n c (ivs zs)) (hn : n ≤ 1000000) :
    Calls Try.prog 27 #[.agg #[.slice A n c]] w fun e w' => ∃ A' c', e = .returned (.slice A' n c') ∧ w'.ownsRow w.heap.size 3 1 (.slice A' n c') n (ivs zs) ∧ Pu w w' := by
  go_enter Try.func27, Try.ntmps27
  go_wp2_with fail
  have hW := (Pu.refl w).alloc (Obj.cells #[Value.slice A n c] 54)
  refine (clone_int A n c zs _ (h.pu hW) hn).mono ?_
  rintro e w1 ⟨A1, c1, rfl, ho1, h1⟩
  go_wp2
  go_ret
  exact ⟨A1, c1, rfl, own_base ho1 (by simp), hW.trans h1⟩

set_option maxRecDepth 100000 in
theorem len_int (A : Option Addr) (n c : Nat) (w : World) (hn : n ≤ 1000000) :
    Calls Try.prog 28 #[.agg #[.slice A n c]] w fun e w' => e = .returned (.int .i64 n) ∧ Pu w w' := by
  go_enter Try.func28, Try.ntmps28
  go_wp2
  go_ret
  exact ⟨rfl, (Pu.refl w).alloc _⟩

theorem norm_313 : norm [3, 1, 3] = [1, 3] := norm_eq _ _ (by simp) (by intro x; simp; omega)
end Go.Proofs.Ytckfnbckoclhpaa
