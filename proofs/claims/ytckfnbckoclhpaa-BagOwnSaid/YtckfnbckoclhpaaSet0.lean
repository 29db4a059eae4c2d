/- Plain laws: sets as rising lists: 'norm'. No program in sight. -/
import Derived.Lib.SlicesCompact
set_option linter.unusedVariables false
namespace Go.Proofs.Ytckfnbckoclhpaa

theorem rising_ext {α : Type} {lt : α → α → Prop} (irr : ∀ a, ¬ lt a a) (tr : ∀ a b c, lt a b → lt b c → lt a c) :
    ∀ (l m : List α), l.Pairwise lt → m.Pairwise lt → (∀ x, x ∈ l ↔ x ∈ m) → l = m := by
  intro l
  induction l with
  | nil =>
    intro m _ _ h
    cases m with
    | nil => rfl
    | cons y m => exact absurd ((h y).2 (by simp)) (by simp)
  | cons x l ih =>
    intro m hl hm h
    cases m with
    | nil => exact absurd ((h x).1 (by simp)) (by simp)
    | cons y m =>
      rw [List.pairwise_cons] at hl hm
      have hxy : x = y := by
        have h1 := (h x).1 (by simp)
        have h2 := (h y).2 (by simp)
        rw [List.mem_cons] at h1 h2
        rcases h1 with h1 | h1
        · exact h1
        rcases h2 with h2 | h2
        · exact h2.symm
        exact absurd (tr _ _ _ (hl.1 y h2) (hm.1 x h1)) (irr x)
      subst hxy
      congr 1
      refine ih m hl.2 hm.2 (fun z => ?_)
      have hz := h z
      rw [List.mem_cons, List.mem_cons] at hz
      constructor
      · intro hm1
        rcases hz.1 (.inr hm1) with e | e
        · subst e; exact absurd (hl.1 z hm1) (irr z)
        · exact e
      · intro hm1
        rcases hz.2 (.inr hm1) with e | e
        · subst e; exact absurd (hm.1 z hm1) (irr z)
        · exact e

section
variable {α : Type} [Inhabited α] [DecidableEq α] {le : α → α → Prop}
omit [DecidableEq α] in
theorem get_bang (zs : List α) {i : Nat} (h : i < zs.length) : zs.toArray[i]! = zs[i] := by simp [h]
theorem compact_rising (as : ∀ a b, le a b → le b a → a = b) (rf : ∀ a, le a a) (zs : List α) (h : zs.Pairwise le) :
    (Lib.compact zs).Pairwise (fun a b => le a b ∧ a ≠ b) := by
  unfold Lib.compact Lib.compactUpTo
  rw [List.pairwise_map, List.pairwise_filter]
  refine List.Pairwise.imp_of_mem ?_ (List.pairwise_lt_range (n := zs.length))
  intro i j hi hj hij _ kj
  have hi := List.mem_range.1 hi
  have hj := List.mem_range.1 hj
  have hle : ∀ i j (hi : i < zs.length) (hj : j < zs.length), i ≤ j → le zs[i] zs[j] := by
    intro i j hi hj hij
    rcases Nat.lt_or_ge i j with h1 | h1
    · exact List.pairwise_iff_getElem.1 h i j hi hj h1
    · obtain rfl : i = j := by omega
      exact rf _
  have hk : zs.toArray[j]! ≠ zs.toArray[j - 1]! := by
    have := kj
    unfold Lib.keeps at this
    rw [decide_eq_true_eq] at this
    rcases this with h0 | h0
    · omega
    · exact h0
  rw [get_bang zs hj, get_bang zs (by omega : j - 1 < zs.length)] at hk
  rw [get_bang zs hi, get_bang zs hj]
  refine ⟨hle i j hi hj (by omega), fun e => hk ?_⟩
  have h1 := hle (j - 1) j (by omega) hj (by omega)
  have h2 := hle i (j - 1) hi (by omega) (by omega)
  rw [e] at h2
  exact as _ _ h2 h1
theorem mem_compact (zs : List α) (x : α) : x ∈ Lib.compact zs ↔ x ∈ zs := by
  unfold Lib.compact Lib.compactUpTo
  simp only [List.mem_map, List.mem_filter, List.mem_range]
  constructor
  · rintro ⟨i, ⟨hi, _⟩, rfl⟩
    rw [get_bang zs hi]
    exact List.getElem_mem hi
  · intro hx
    obtain ⟨i, hi, hix⟩ := List.getElem_of_mem hx
    have key : ∀ k, ∀ i, i ≤ k → ∀ (hi : i < zs.length), zs[i] = x → ∃ j, (j < zs.length ∧ Lib.keeps zs.toArray j = true) ∧ zs.toArray[j]! = x := by
      intro k
      induction k with
      | zero =>
        intro i hik hi hx
        obtain rfl : i = 0 := by omega
        exact ⟨0, ⟨hi, Lib.keeps_lt_one _ 0 (by omega)⟩, by rw [get_bang zs hi]; exact hx⟩
      | succ k ih =>
        intro i hik hi hx
        by_cases hk : Lib.keeps zs.toArray i = true
        · exact ⟨i, ⟨hi, hk⟩, by rw [get_bang zs hi]; exact hx⟩
        · unfold Lib.keeps at hk
          rw [decide_eq_true_eq] at hk
          have h0 : i ≠ 0 := fun e => hk (.inl e)
          have h1 : zs.toArray[i]! = zs.toArray[i - 1]! := by
            by_cases e : zs.toArray[i]! = zs.toArray[i - 1]!
            · exact e
            · exact absurd (.inr e) hk
          rw [get_bang zs hi, get_bang zs (by omega : i - 1 < zs.length)] at h1
          exact ih (i - 1) (by omega) (by omega) (by rw [← h1]; exact hx)
    exact key i i (Nat.le_refl _) hi hix
end

/-- a set of numbers: rising, each once -/
def norm (zs : List Int) : List Int := Lib.compact (zs.mergeSort fun x y => decide (x ≤ y))
theorem norm_rising (zs : List Int) : (norm zs).Pairwise (· < ·) := by
  have h : (zs.mergeSort fun x y => decide (x ≤ y)).Pairwise (· ≤ ·) := by
    have := List.pairwise_mergeSort (le := fun x y : Int => decide (x ≤ y)) (by simp; omega) (by simp; omega) zs
    exact List.Pairwise.imp_of_mem (fun _ _ h => by simpa using h) this
  exact List.Pairwise.imp_of_mem (fun _ _ ⟨h1, h2⟩ => by omega) (compact_rising (le := (· ≤ · : Int → Int → Prop)) (fun _ _ => Int.le_antisymm) Int.le_refl _ h)
theorem mem_norm (zs : List Int) (x : Int) : x ∈ norm zs ↔ x ∈ zs := by
  unfold norm
  rw [mem_compact, List.mem_mergeSort]
theorem rising_int (l m : List Int) (hl : l.Pairwise (· < ·)) (hm : m.Pairwise (· < ·)) (h : ∀ x, x ∈ l ↔ x ∈ m) : l = m :=
  rising_ext (lt := (· < · : Int → Int → Prop)) (fun _ => Int.lt_irrefl _) (fun _ _ _ => Int.lt_trans) l m hl hm h
theorem norm_eq (zs m : List Int) (hm : m.Pairwise (· < ·)) (h : ∀ x, x ∈ zs ↔ x ∈ m) : norm zs = m :=
  rising_int _ _ (norm_rising zs) hm (fun x => (mem_norm zs x).trans (h x))
theorem norm_length_le (zs : List Int) : (norm zs).length ≤ zs.length := by
  unfold norm Lib.compact Lib.compactUpTo
  rw [List.length_map]
  refine Nat.le_trans (List.length_filter_le _ _) ?_
  simp
end Go.Proofs.Ytckfnbckoclhpaa
