/- Numbers as lists: words to the base 2^32 and decimal digits, the lowest first. Plain lists, no program in sight. -/
import Derived.WalkKit
set_option linter.unusedVariables false
namespace Go.Proofs.YtckfnbckoclhpaaDoor

/-- what a list of places is worth, to a base -/
def pval (b : Nat) : List Nat → Nat
  | [] => 0
  | x :: l => x + b * pval b l
/-- every place is below the base -/
def Below_ (b : Nat) (l : List Nat) : Prop := ∀ x ∈ l, x < b
/-- no nought at the end -/
def Tidy (l : List Nat) : Prop := l.getLast? ≠ some 0

theorem pval_append (b : Nat) : ∀ (l k : List Nat), pval b (l ++ k) = pval b l + b ^ l.length * pval b k
  | [], k => by simp [pval]
  | x :: l, k => by
    have := pval_append b l k
    simp only [List.cons_append, pval, this, List.length_cons, Nat.pow_succ, Nat.mul_add, Nat.add_assoc]
    congr 2
    rw [Nat.mul_comm (b ^ l.length) b, Nat.mul_assoc]
theorem pval_snoc (b : Nat) (l : List Nat) (x : Nat) : pval b (l ++ [x]) = pval b l + b ^ l.length * x := by
  rw [pval_append]
  simp [pval]
theorem pval_zeros (b : Nat) (n : Nat) : pval b (List.replicate n 0) = 0 := by
  induction n with
  | zero => rfl
  | succ n ih => simp [List.replicate_succ, pval, ih]
theorem pval_lt {b : Nat} : ∀ {l : List Nat}, Below_ b l → pval b l < b ^ l.length
  | [], _ => by simp [pval]
  | x :: l, h => by
    have h1 := h x (by simp)
    have h2 := pval_lt (l := l) (fun y hy => h y (by simp [hy]))
    simp only [pval, List.length_cons, Nat.pow_succ]
    have h3 : b * (pval b l + 1) ≤ b * b ^ l.length := Nat.mul_le_mul_left _ h2
    rw [Nat.mul_add] at h3
    rw [Nat.mul_comm (b ^ l.length) b]
    omega
/-- a tidy list is worth at least its last place -/
theorem pval_ge {b : Nat} {l : List Nat} (hb : 0 < b) (ht : Tidy l) (hl : l ≠ []) : b ^ (l.length - 1) ≤ pval b l := by
  rcases List.eq_nil_or_concat l with rfl | ⟨k, x, rfl⟩
  · exact absurd rfl hl
  · rw [List.concat_eq_append] at *
    have hx : x ≠ 0 := by
      rintro rfl
      exact ht (by simp)
    rw [pval_snoc]
    have : b ^ k.length * 1 ≤ b ^ k.length * x := Nat.mul_le_mul_left _ (by omega)
    simp
    omega
theorem Below_.snoc {b : Nat} {l : List Nat} {x : Nat} (h : Below_ b l) (hx : x < b) : Below_ b (l ++ [x]) := by
  intro y hy
  rcases List.mem_append.1 hy with hy | hy
  · exact h y hy
  · simp at hy
    omega
theorem Below_.take {b : Nat} {l : List Nat} (h : Below_ b l) (n : Nat) : Below_ b (l.take n) := fun x hx => h x (List.mem_of_mem_take hx)
theorem Below_.nil (b : Nat) : Below_ b [] := fun x hx => by simp at hx
theorem tidy_nil : Tidy [] := by simp [Tidy]

/-- the list without noughts at the end -/
def tidied (l : List Nat) : List Nat := (l.reverse.dropWhile (· == 0)).reverse
theorem tidied_snoc0 (l : List Nat) : tidied (l ++ [0]) = tidied l := by simp [tidied]
theorem tidied_snoc (l : List Nat) {x : Nat} (h : x ≠ 0) : tidied (l ++ [x]) = l ++ [x] := by simp [tidied, h]
theorem tidied_nil : tidied [] = [] := rfl
theorem tidied_tidy (l : List Nat) : Tidy (tidied l) := by
  unfold Tidy tidied
  rw [List.getLast?_reverse]
  intro h
  have := List.head?_dropWhile_not (fun x => x == 0) l.reverse
  rw [h] at this
  simp at this
theorem tidied_of_tidy {l : List Nat} (h : Tidy l) : tidied l = l := by
  rcases List.eq_nil_or_concat l with rfl | ⟨k, x, rfl⟩
  · rfl
  · rw [List.concat_eq_append] at *
    exact tidied_snoc _ (by
      rintro rfl
      exact h (by simp))
theorem tidied_ind {p : List Nat → Prop} (h0 : ∀ k, p k → p (k ++ [0])) (h1 : p []) (h2 : ∀ k x, x ≠ 0 → p (k ++ [x])) (l : List Nat) : p l := by
  have : ∀ n (l : List Nat), l.length = n → p l := by
    intro n
    induction n with
    | zero => intro l hl; rw [List.length_eq_zero_iff.1 hl]; exact h1
    | succ n ih =>
      intro l hl
      rcases List.eq_nil_or_concat l with rfl | ⟨k, x, rfl⟩
      · exact h1
      · rw [List.concat_eq_append] at *
        by_cases hx : x = 0
        · subst hx
          exact h0 k (ih k (by simpa using hl))
        · exact h2 k x hx
  exact this _ l rfl
theorem tidied_val (b : Nat) (l : List Nat) : pval b (tidied l) = pval b l := by
  induction l using tidied_ind with
  | h0 k ih => rw [tidied_snoc0, ih, pval_snoc]; simp
  | h1 => rfl
  | h2 k x hx => rw [tidied_snoc k hx]
theorem tidied_prefix (l : List Nat) : ∃ n, n ≤ l.length ∧ tidied l = l.take n := by
  induction l using tidied_ind with
  | h0 k ih =>
    obtain ⟨n, h1, h2⟩ := ih
    exact ⟨n, by simp; omega, by rw [tidied_snoc0, h2, List.take_append_of_le_length h1]⟩
  | h1 => exact ⟨0, Nat.le_refl _, rfl⟩
  | h2 k x hx => exact ⟨(k ++ [x]).length, Nat.le_refl _, by rw [tidied_snoc k hx, List.take_of_length_le (Nat.le_refl _)]⟩
theorem tidied_below {b : Nat} {l : List Nat} (h : Below_ b l) : Below_ b (tidied l) := by
  obtain ⟨n, _, e⟩ := tidied_prefix l
  rw [e]
  exact h.take n
theorem tidied_len (l : List Nat) : (tidied l).length ≤ l.length := by
  obtain ⟨n, h, e⟩ := tidied_prefix l
  rw [e]
  simp
  omega

/-- the decimal digits of a number, the lowest first -/
def digs (n : Nat) : List Nat := if n = 0 then [] else n % 10 :: digs (n / 10)
decreasing_by omega
theorem digs_zero : digs 0 = [] := by unfold digs; simp
theorem digs_pos {n : Nat} (h : n ≠ 0) : digs n = n % 10 :: digs (n / 10) := by rw [digs]; simp [h]
theorem tidy_tail {x : Nat} {l : List Nat} (h : Tidy (x :: l)) : Tidy l := by
  cases l with
  | nil => exact tidy_nil
  | cons y l => simpa [Tidy] using h
theorem tidy_zero {l : List Nat} (ht : Tidy l) {b : Nat} (hb : 0 < b) (h : pval b l = 0) : l = [] := by
  rcases Decidable.em (l = []) with e | e
  · exact e
  · have h1 := pval_ge hb ht e
    have h2 : 0 < b ^ (l.length - 1) := Nat.pow_pos hb
    omega
/-- tidy digits are the number's -/
theorem digs_eq : ∀ {l : List Nat}, Below_ 10 l → Tidy l → l = digs (pval 10 l)
  | [], _, _ => by simp [pval, digs_zero]
  | x :: l, h, ht => by
    have h1 := h x (by simp)
    have ih := digs_eq (l := l) (fun y hy => h y (by simp [hy])) (tidy_tail ht)
    have hne : pval 10 (x :: l) ≠ 0 := fun e => by
      have := tidy_zero ht (by omega) e
      cases this
    rw [digs_pos hne]
    simp only [pval] at *
    have e1 : (x + 10 * pval 10 l) % 10 = x := by omega
    have e2 : (x + 10 * pval 10 l) / 10 = pval 10 l := by omega
    rw [e1, e2, ← ih]
theorem digs_lt (n : Nat) : Below_ 10 (digs n) := by
  induction n using Nat.strongRecOn with
  | ind n ih =>
    by_cases h : n = 0
    · subst h
      rw [digs_zero]
      exact Below_.nil 10
    · rw [digs_pos h]
      intro x hx
      rcases List.mem_cons.1 hx with rfl | hx
      · omega
      · exact ih _ (by omega) x hx
theorem digs_val (n : Nat) : pval 10 (digs n) = n := by
  induction n using Nat.strongRecOn with
  | ind n ih =>
    by_cases h : n = 0
    · subst h
      rw [digs_zero]
      rfl
    · rw [digs_pos h, pval, ih _ (by omega)]
      omega
theorem digs_tidy (n : Nat) : Tidy (digs n) := by
  induction n using Nat.strongRecOn with
  | ind n ih =>
    by_cases h : n = 0
    · subst h
      rw [digs_zero]
      exact tidy_nil
    · rw [digs_pos h]
      by_cases h2 : n / 10 = 0
      · rw [h2, digs_zero]
        simp [Tidy]
        omega
      · have := ih (n / 10) (by omega)
        rw [digs_pos h2] at this ⊢
        simpa [Tidy] using this

/-- the text of a number -/
def ztext (z : Int) : List UInt8 := if z = 0 then [48] else (if z < 0 then [45] else []) ++ ((digs z.natAbs).reverse.map fun d => UInt8.ofNat (48 + d))
end Go.Proofs.YtckfnbckoclhpaaDoor
