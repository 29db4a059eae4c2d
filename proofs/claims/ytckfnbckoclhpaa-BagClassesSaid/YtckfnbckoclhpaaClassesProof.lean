/- BagClasses: whatever the number and the steps, the law returns true, and the steps read as before. No condition. -/
import Derived.Test.YtckfnbckoclhpaaRows
import Derived.Test.YtckfnbckoclhpaaArgSlice
import Derived.Test.YtckfnbckoclhpaaBagClasses
set_option linter.unusedVariables false
namespace Go.Proofs.Ytckfnbckoclhpaa.lawBagClasses
open Go.ChangeShapes Go.WideShapes Go.ChangeAt Go.RowKit

theorem own : ownKnob Try.prog.godebug = none := by kernel_rfl
theorem laidOut : laidOutB Try.prog = true := by kernel_rfl

theorem arg_ops {H : Type} {enc : TypeId × Value → H} {w : World} {base : Nat} {spare : Nat → Bool} {held : Bool} {a : Option Addr} {n c : Nat} {d : DataW H} {p : List MemPlace}
    (h : DataW.Trod enc Try.prog w base spare held 22 (.slice a n c) d p) :
    n ≤ c ∧ c ≤ maxLen ∧ ∃ ops : List (Int × Int × Int), ops.length = n ∧ Sl w 3 a n c (opCells ops) := by
  obtain ⟨fuel, hf⟩ := h
  rcases open_slice_fields Try.underlying22 Try.underlying30 (by kernel_rfl) (by kernel_rfl) hf with ⟨hcs, _⟩ | ⟨x, l, c', m, D, Pl, hcs, _, hl, hm, hmm, _, hcell⟩
  · simp [Value.cells] at hcs
    obtain ⟨rfl, rfl, rfl⟩ := hcs
    exact ⟨Nat.le_refl _, Nat.zero_le _, [], rfl, Sl.nil _ _ _ _⟩
  · simp [Value.cells] at hcs
    obtain ⟨rfl, rfl, rfl⟩ := hcs
    have hnm : n ≤ m := by
      rw [hmm]
      split <;> omega
    have key : ∀ i, i < n → ∃ o : Int × Int × Int, w.cell? (x.add (i * 3)) = some (.int .i64 o.1) ∧ w.cell? (x.add (i * 3 + 1)) = some (.int .i64 o.2.1) ∧ w.cell? (x.add (i * 3 + 2)) = some (.int .i64 o.2.2) := by
      intro i hi
      obtain ⟨ys, k, _, _, _, hj⟩ := hcell i (by omega)
      obtain ⟨v0, y0, c0, _, t0⟩ := hj 0 _ rfl
      obtain ⟨v1, y1, c1, _, t1⟩ := hj 1 _ rfl
      obtain ⟨v2, y2, c2, _, t2⟩ := hj 2 _ rfl
      obtain ⟨z0, e0, _, _⟩ := DataW.trod_int Try.underlying3 t0
      obtain ⟨z1, e1, _, _⟩ := DataW.trod_int Try.underlying3 t1
      obtain ⟨z2, e2, _, _⟩ := DataW.trod_int Try.underlying3 t2
      simp at e0 e1 e2
      subst e0 e1 e2
      exact ⟨(z0, z1, z2), by simpa using c0, c1, c2⟩
    obtain ⟨ops, hlen, hops⟩ : ∃ ops : List (Int × Int × Int), ops.length = n ∧ ∀ i o, ops[i]? = some o → w.cell? (x.add (i * 3)) = some (.int .i64 o.1) ∧ w.cell? (x.add (i * 3 + 1)) = some (.int .i64 o.2.1) ∧ w.cell? (x.add (i * 3 + 2)) = some (.int .i64 o.2.2) := by
      refine ⟨List.ofFn (n := n) fun i => (key i.1 i.2).choose, by simp, fun i o ho => ?_⟩
      rw [List.getElem?_ofFn] at ho
      split at ho
      · rename_i hi
        injection ho with ho
        subst ho
        exact (key i hi).choose_spec
      · cases ho
    have hol : (opCells ops).length = n * 3 := by
      have : ∀ l : List (Int × Int × Int), (opCells l).length = l.length * 3 := by
        intro l
        induction l with
        | nil => rfl
        | cons o l ih => simp [opCells] at ih ⊢; omega
      rw [this, hlen]
    refine ⟨hl, hm, ops, hlen, sl_of_add hol hl (by omega) (fun j u hu => ?_)⟩
    have hjl : j < n * 3 := by
      rcases Nat.lt_or_ge j (n * 3) with h1 | h1
      · exact h1
      · rw [List.getElem?_eq_none (by omega)] at hu; cases hu
    have hd : j / 3 < n := by omega
    obtain ⟨g0, g1, g2⟩ := opCells_get ops (j / 3) ops[j / 3] (List.getElem?_eq_getElem (by omega))
    obtain ⟨f0, f1, f2⟩ := hops (j / 3) ops[j / 3] (List.getElem?_eq_getElem (by omega))
    rcases (show j = j / 3 * 3 ∨ j = j / 3 * 3 + 1 ∨ j = j / 3 * 3 + 2 by omega) with e | e | e
    · rw [e] at hu ⊢
      rw [g0] at hu
      injection hu with hu
      rw [← hu]
      exact f0
    · rw [e] at hu ⊢
      rw [g1] at hu
      injection hu with hu
      rw [← hu]
      exact f1
    · rw [e] at hu ⊢
      rw [g2] at hu
      injection hu with hu
      rw [← hu]
      exact f2

theorem walk (n : Int) (A : Option Addr) (m c : Nat) (ops : List (Int × Int × Int)) (w : World) (hl : ops.length = m) (hm : m ≤ 9223372036854775807) (hs : Sl w 3 A m c (opCells ops)) :
    Calls Try.prog 3 #[.int .i64 n, .slice A m c] w fun e w' => e = .returned (.bool true) ∧ Pu w w' := by
  by_cases h1 : (60 < n ∧ n ≤ 65536) ∨ 100 < m
  · exact classes_big A m c n w hm h1
  · by_cases h2 : n < 0 ∨ 65536 < n
    · exact classes_none A m c n w (by omega) h2
    · obtain ⟨k, rfl⟩ := Int.eq_ofNat_of_zero_le (show 0 ≤ n by omega)
      exact classes_walk A m c ops k w (by omega) (by omega) hl hs

set_option maxRecDepth 100000 in
theorem lifted (os : Os) (started : os.Started) (H : Type) (enc : TypeId × Value → H) :
    ReturnsInHanded {} Try.checked os 3 .any (Rows.bagClassesSpec.pre6 enc Try.prog Try.f3 Rows.bagClassesRow.domain false) (Rows.bagClassesSpec.post enc Try.prog Try.f3 false true false false) := by
  refine returnsInHanded_of_change (C := Try.checked) own started (by kernel_rfl) Try.func3
    (ChangeSpec.witness6 (enc := enc) (C := Try.checked) false ⟨#[], #[.int .i64 0, .slice none 0 0], []⟩ 8 (by kernel_rfl) (by kernel_rfl) (by kernel_rfl) (by kernel_rfl)) ?_
  intro W base args ds gs before hval0 hW hcnd _
  have hval : ∀ (j : Nat) t v, Try.f3.params[j]? = some t → args[j]? = some v → Value.okWide Try.prog W .any base t v := hval0
  have hW' := hW
  obtain ⟨p, q, hA0, hV, rfl, hfz, hnd⟩ := hW
  have hA : DataW.TrodAll enc Try.prog W 0 (fun _ => true) true Try.f3.params.toList args.toList ds p := hA0
  rw [Try.params3] at hA hval
  obtain ⟨v0, vs0, d0, ds0, p0, q0, hargs, rfl, rfl, h0, r0⟩ := trodAll_cons hA
  obtain ⟨v1, vs1, d1, ds1, p1, q1, rfl, rfl, rfl, h1, r1⟩ := trodAll_cons r0
  obtain ⟨rfl, rfl, rfl⟩ := trodAll_nil r1
  obtain rfl : args = #[v0, v1] := by cases args; simp_all
  obtain ⟨rfl, rfl⟩ := trodVars_none hV
  obtain ⟨a0, rfl, rfl, rfl, w0⟩ := open_int Try.underlying3 (hval 0 3 v0 rfl rfl) h0
  obtain ⟨a1, len1, cap1, rfl⟩ := okWide_slice Try.underlying22 (hval 1 22 v1 rfl rfl)
  have k1 := h1
  have lt1 : ∀ x ∈ p1, x.block < W.heap.size := by obtain ⟨m, hm⟩ := k1; exact DataW.trod_lt m _ _ _ hm
  obtain ⟨hlc, hcm, ops, hol, hsl⟩ := arg_ops h1
  clear hA0 hval0
  simp only [maxLen] at hcm
  refine (walk a0 a1 len1 cap1 ops W hol (by omega) hsl).mono fun e W' ⟨he, hpu⟩ => ?_
  have bel := hpu.below
  subst he
  exact ⟨_, rfl, _, _, _, [], _, [], hW', trodAll_mk1 (shut_bool Try.underlying4 _), (trodAll_cons_mk (shut_int Try.underlying3 w0) (trodAll_cons_mk (Below.trod laidOut (by kernel_rfl) (of_decide_eq_true (by kernel_rfl)) k1 bel lt1) trodAll_mk0)), rfl, bel.frame _, fun h => by cases h⟩

theorem proved : Rows.BagClassesSaid :=
  OpenClaim.holds_of_wide 3 Try.f3 rfl rfl rfl rfl rfl rfl rfl ⟨rfl, rfl, rfl, rfl, rfl⟩ rfl rfl rfl rfl rfl (by kernel_rfl) Try.func3 (by kernel_rfl)
    (of_decide_eq_true (by kernel_rfl)) (by unfold Func.isWrapper; first | (rw [if_pos (by decide +kernel)]; kernel_rfl) | (rw [if_neg (by decide +kernel)]; exact ⟨rfl, rfl⟩))
    (fun os started H enc _ => lifted os started H enc)
#print axioms proved
end Go.Proofs.Ytckfnbckoclhpaa.lawBagClasses
