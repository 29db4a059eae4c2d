/- The steps of a play, as they lie: opCells, ops_at, and how the argument is opened. -/
import Derived.Test.YtckfnbckoclhpaaArgSlice
import Derived.Test.YtckfnbckoclhpaaCls2
set_option linter.unusedVariables false
namespace Go.Proofs.Ytckfnbckoclhpaa
open Go.ChangeShapes Go.WideShapes Go.ChangeAt Go.RowKit

abbrev opCells (ops : List (Int × Int × Int)) : List Value := ops.flatMap fun o => [.int .i64 o.1, .int .i64 o.2.1, .int .i64 o.2.2]
theorem opCells_get (ops : List (Int × Int × Int)) : ∀ (j : Nat) (o : Int × Int × Int), ops[j]? = some o → (opCells ops)[j * 3]? = some (.int .i64 o.1) ∧ (opCells ops)[j * 3 + 1]? = some (.int .i64 o.2.1) ∧ (opCells ops)[j * 3 + 2]? = some (.int .i64 o.2.2) := by
  induction ops with
  | nil => intro j o h; simp at h
  | cons p ops ih =>
    intro j o h
    cases j with
    | zero =>
      simp at h
      subst h
      simp [opCells]
    | succ j =>
      have := ih j o (by simpa using h)
      have e : (j + 1) * 3 = j * 3 + 3 := by omega
      rw [e]
      simpa [opCells] using this
theorem ops_at {w : World} {A : Option Addr} {m c : Nat} {ops : List (Int × Int × Int)} (h : Sl w 3 A m c (opCells ops)) (hl : ops.length = m) {j : Nat} (hj : j < m) :
    ∃ b off k x y, A = some ⟨b, off, none⟩ ∧ b < w.heap.size ∧ w.cell? ⟨b, off + j * 3, none⟩ = some (.int .i64 k) ∧ w.cell? ⟨b, off + j * 3 + 1, none⟩ = some (.int .i64 x) ∧ w.cell? ⟨b, off + j * 3 + 2, none⟩ = some (.int .i64 y) := by
  obtain ⟨b, off, rfl, hb, hc⟩ := h.2.2 (by omega)
  obtain ⟨h1, h2, h3⟩ := opCells_get ops j ops[j] (List.getElem?_eq_getElem (by omega))
  exact ⟨b, off, _, _, _, rfl, hb, hc _ _ h1, hc _ _ h2, hc _ _ h3⟩

theorem arg_ops {H : Type} {enc : TypeId × Value → H} {w : World} {base : Nat} {spare : Nat → Bool} {held : Bool} {a : Option Addr} {n c : Nat} {d : DataW H} {p : List MemPlace}
    (h : DataW.Trod enc Try.prog w base spare held 22 (.slice a n c) d p) :
    n ≤ c ∧ c ≤ maxLen ∧ ∃ ops : List (Int × Int × Int), ops.length = n ∧ Sl w 3 a n c (opCells ops) := by
  obtain ⟨fuel, hf⟩ := h
  rcases open_slice_fields Try.underlying22 Try.underlying30 (by kernel_rfl) (by kernel_rfl) hf with ⟨hcs, _⟩ | ⟨x, l, c', m, D, Pl, hcs, _, hl, hm, hmm, _, hcell⟩
  · simp [Value.cells] at hcs
    obtain ⟨rfl, rfl, rfl⟩ := hcs
    exact ⟨Nat.le_refl _, Nat.zero_le _, [], rfl, Sl.nil _ _ _ _⟩
  · simp [Value.cells] at hcs
    obtain ⟨rfl, rfl, rfl⟩ := hcs
    have hnm : n ≤ m := by
      rw [hmm]
      split <;> omega
    have key : ∀ i, i < n → ∃ o : Int × Int × Int, w.cell? (x.add (i * 3)) = some (.int .i64 o.1) ∧ w.cell? (x.add (i * 3 + 1)) = some (.int .i64 o.2.1) ∧ w.cell? (x.add (i * 3 + 2)) = some (.int .i64 o.2.2) := by
      intro i hi
      obtain ⟨ys, k, _, _, _, hj⟩ := hcell i (by omega)
      obtain ⟨v0, y0, c0, _, t0⟩ := hj 0 _ rfl
      obtain ⟨v1, y1, c1, _, t1⟩ := hj 1 _ rfl
      obtain ⟨v2, y2, c2, _, t2⟩ := hj 2 _ rfl
      obtain ⟨z0, e0, _, _⟩ := DataW.trod_int Try.underlying3 t0
      obtain ⟨z1, e1, _, _⟩ := DataW.trod_int Try.underlying3 t1
      obtain ⟨z2, e2, _, _⟩ := DataW.trod_int Try.underlying3 t2
      simp at e0 e1 e2
      subst e0 e1 e2
      exact ⟨(z0, z1, z2), by simpa using c0, c1, c2⟩
    obtain ⟨ops, hlen, hops⟩ : ∃ ops : List (Int × Int × Int), ops.length = n ∧ ∀ i o, ops[i]? = some o → w.cell? (x.add (i * 3)) = some (.int .i64 o.1) ∧ w.cell? (x.add (i * 3 + 1)) = some (.int .i64 o.2.1) ∧ w.cell? (x.add (i * 3 + 2)) = some (.int .i64 o.2.2) := by
      refine ⟨List.ofFn (n := n) fun i => (key i.1 i.2).choose, by simp, fun i o ho => ?_⟩
      rw [List.getElem?_ofFn] at ho
      split at ho
      · rename_i hi
        injection ho with ho
        subst ho
        exact (key i hi).choose_spec
      · cases ho
    have hol : (opCells ops).length = n * 3 := by
      have : ∀ l : List (Int × Int × Int), (opCells l).length = l.length * 3 := by
        intro l
        induction l with
        | nil => rfl
        | cons o l ih => simp [opCells] at ih ⊢; omega
      rw [this, hlen]
    refine ⟨hl, hm, ops, hlen, sl_of_add hol hl (by omega) (fun j u hu => ?_)⟩
    have hjl : j < n * 3 := by
      rcases Nat.lt_or_ge j (n * 3) with h1 | h1
      · exact h1
      · rw [List.getElem?_eq_none (by omega)] at hu; cases hu
    have hd : j / 3 < n := by omega
    obtain ⟨g0, g1, g2⟩ := opCells_get ops (j / 3) ops[j / 3] (List.getElem?_eq_getElem (by omega))
    obtain ⟨f0, f1, f2⟩ := hops (j / 3) ops[j / 3] (List.getElem?_eq_getElem (by omega))
    rcases (show j = j / 3 * 3 ∨ j = j / 3 * 3 + 1 ∨ j = j / 3 * 3 + 2 by omega) with e | e | e
    · rw [e] at hu ⊢
      rw [g0] at hu
      injection hu with hu
      rw [← hu]
      exact f0
    · rw [e] at hu ⊢
      rw [g1] at hu
      injection hu with hu
      rw [← hu]
      exact f1
    · rw [e] at hu ⊢
      rw [g2] at hu
      injection hu with hu
      rw [← hu]
      exact f2

end Go.Proofs.Ytckfnbckoclhpaa
