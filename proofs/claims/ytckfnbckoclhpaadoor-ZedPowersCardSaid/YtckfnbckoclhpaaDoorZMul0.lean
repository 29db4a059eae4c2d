/- zed: the sums behind Mul, scale, shift, back, take, give, guess. Plain numbers and lists, no program in sight. -/
import Derived.Test.YtckfnbckoclhpaaDoorZMath
set_option linter.unusedVariables false
namespace Go.Proofs.YtckfnbckoclhpaaDoor

theorem pval_set {b : Nat} : ∀ {l : List Nat} {j x : Nat} (y : Nat), l[j]? = some x → pval b (l.set j y) + b ^ j * x = pval b l + b ^ j * y
  | [], j, x, y, h => by simp at h
  | a :: l, 0, x, y, h => by
    simp at h
    subst h
    simp [pval]
    omega
  | a :: l, j + 1, x, y, h => by
    have ih := pval_set (b := b) (l := l) (j := j) y (by simpa using h)
    have := congrArg (b * ·) ih
    simp only [Nat.mul_add] at this
    simp only [List.set_cons_succ, pval, Nat.pow_succ]
    rw [Nat.mul_comm (b ^ j) b, Nat.mul_assoc, Nat.mul_assoc]
    omega
theorem Below_.set {b : Nat} {l : List Nat} {j y : Nat} (h : Below_ b l) (hy : y < b) : Below_ b (l.set j y) := by
  intro x hx
  rcases List.mem_or_eq_of_mem_set hx with h1 | h1
  · exact h x h1
  · rw [h1]
    exact hy
theorem Below_.append {b : Nat} {l k : List Nat} (h : Below_ b l) (g : Below_ b k) : Below_ b (l ++ k) := by
  intro x hx
  rcases List.mem_append.1 hx with hx | hx
  · exact h x hx
  · exact g x hx
theorem Below_.drop {b : Nat} {l : List Nat} (h : Below_ b l) (n : Nat) : Below_ b (l.drop n) := fun x hx => h x (List.mem_of_mem_drop hx)
theorem Below_.zeros {b : Nat} (hb : 0 < b) (n : Nat) : Below_ b (List.replicate n 0) := by
  intro x hx
  rw [List.eq_of_mem_replicate hx]
  exact hb
theorem pval_cut (b : Nat) (l : List Nat) (n : Nat) (h : n ≤ l.length) : pval b l = pval b (l.take n) + b ^ n * pval b (l.drop n) := by
  conv => lhs; rw [← List.take_append_drop n l]
  rw [pval_append, List.length_take, Nat.min_eq_left h]
theorem pval_take_succ {b : Nat} {l : List Nat} {j x : Nat} (h : l[j]? = some x) : pval b (l.take (j + 1)) = pval b (l.take j) + b ^ j * x := by
  have hj := (List.getElem?_eq_some_iff.1 h).1
  rw [List.take_add_one, h]
  show pval b (l.take j ++ [x]) = _
  rw [pval_snoc, List.length_take, Nat.min_eq_left (by omega)]
theorem pval_drop_at {b : Nat} {l : List Nat} {j x : Nat} (h : l[j]? = some x) : pval b (l.drop j) = x + b * pval b (l.drop (j + 1)) := by
  have hj := (List.getElem?_eq_some_iff.1 h).1
  rw [List.drop_eq_getElem_cons hj]
  have e : l[j] = x := by rw [List.getElem?_eq_getElem hj] at h; injection h
  rw [e]
  rfl

/-- one word of a product fits -/
theorem mul_fits {x y c o : Nat} (hx : x < 4294967296) (hy : y < 4294967296) (hc : c < 4294967296) (ho : o < 4294967296) : x * y + o + c < 18446744073709551616 := by
  have := Nat.mul_le_mul (show x ≤ 4294967295 by omega) (show y ≤ 4294967295 by omega)
  omega
/-- one step of a row of a product -/
theorem mul_step {a a' P c q r old xy T : Nat} (hs : a' + P * old = a + P * r) (e : 4294967296 * q + r = c + (xy + old)) (inv : a + P * c = T) : a' + P * 4294967296 * q = T + P * xy := by
  have h1 : P * (4294967296 * q + r) = P * (c + (xy + old)) := by rw [e]
  rw [Nat.mul_add, Nat.mul_add, Nat.mul_add, ← Nat.mul_assoc] at h1
  omega
theorem mul_row {i k x y p : Nat} : 4294967296 ^ i * (x * p) + 4294967296 ^ (i + k) * (x * y) = 4294967296 ^ i * (x * (p + 4294967296 ^ k * y)) := by
  rw [Nat.pow_add, Nat.mul_add x, Nat.mul_add (4294967296 ^ i), Nat.mul_assoc]
  congr 1
  congr 1
  rw [Nat.mul_left_comm]

/-- one step of a scale: more ≤ by keeps -/
theorem scale_more {m w d : Nat} (hm : m ≤ d) (hw : w < 4294967296) : (m + w * d) / 4294967296 ≤ d := by
  have h1 : w * d ≤ 4294967295 * d := Nat.mul_le_mul_right _ (by omega)
  omega
theorem scale_step {s p m w d q r t : Nat} (inv : s + p * m = t) (e : 4294967296 * q + r = m + w * d) : s + p * r + p * 4294967296 * q = t + p * (w * d) := by
  have h1 : p * (4294967296 * q + r) = p * (m + w * d) := by rw [e]
  rw [Nat.mul_add, Nat.mul_add, ← Nat.mul_assoc] at h1
  omega
/-- one step of taking away a multiple: new words and what is still to be taken -/
theorem take_step {n o y p q c l w ci low oi ni l' : Nat} (inv : n + q * y = o + p * (c + l)) (e1 : 4294967296 * ci + low = c + w * q) (e2 : ni + low + l = oi + 4294967296 * l') :
    n + p * ni + q * (y + p * w) = o + p * oi + p * 4294967296 * (ci + l') := by
  have h1 : p * (4294967296 * ci + low) = p * (c + w * q) := by rw [e1]
  have h2 : p * (ni + low + l) = p * (oi + 4294967296 * l') := by rw [e2]
  simp only [Nat.mul_add, ← Nat.mul_assoc] at h1 h2 inv ⊢
  have h3 : q * p * w = p * w * q := by rw [Nat.mul_comm q p, Nat.mul_assoc, Nat.mul_comm q w, ← Nat.mul_assoc]
  rw [h3]
  omega
/-- the guess's word: at most one too great -/
theorem guess_good {S Y U V P q Q : Nat} (hP : 0 < P) (hYV : V * P ≤ Y) (hYV2 : Y < (V + 1) * P) (hU : U * P ≤ S) (hU2 : S < (U + 1) * P) (hV : 4294967296 ≤ V) (hq : q < 4294967296) (h1 : q * V ≤ U) (h2 : q = 4294967295 ∨ U < (q + 1) * V) (hS : S < 4294967296 * Y) :
    (q - 1) * Y ≤ S ∧ S < (q + 1) * Y := by
  constructor
  · rcases Nat.eq_zero_or_pos q with rfl | hq0
    · simp
    · have h3 : (q - 1) * (V + 1) ≤ U := by
        obtain ⟨k, rfl⟩ : ∃ k, q = k + 1 := ⟨q - 1, by omega⟩
        rw [Nat.add_sub_cancel, Nat.mul_add, Nat.mul_one]
        rw [Nat.add_mul, Nat.one_mul] at h1
        omega
      have h4 : (q - 1) * Y ≤ (q - 1) * ((V + 1) * P) := Nat.mul_le_mul_left _ (Nat.le_of_lt hYV2)
      rw [← Nat.mul_assoc] at h4
      have h5 : (q - 1) * (V + 1) * P ≤ U * P := Nat.mul_le_mul_right _ h3
      omega
  · rcases h2 with rfl | h2
    · exact hS
    · have h3 : (U + 1) * P ≤ (q + 1) * V * P := Nat.mul_le_mul_right _ h2
      rw [Nat.mul_assoc] at h3
      have h4 : (q + 1) * (V * P) ≤ (q + 1) * Y := Nat.mul_le_mul_left _ hYV
      omega
/-- a round of guess -/
theorem guess_round {q top r U next low V U3 : Nat} (hV : V = top * 4294967296 + next) (hU3 : U3 = U * 4294967296 + low) (inv : q * top + r = U) : (q * next ≤ r * 4294967296 + low ↔ q * V ≤ U3) := by
  subst hV hU3 inv
  rw [Nat.mul_add, Nat.add_mul, Nat.mul_assoc]
  omega
theorem guess_start {U top next low q V U3 : Nat} (hV : V = top * 4294967296 + next) (hU3 : U3 = U * 4294967296 + low) (hl : low < 4294967296) (h : U < (q + 1) * top) : U3 < (q + 1) * V := by
  subst hV hU3
  rw [Nat.mul_add, ← Nat.mul_assoc]
  have : (U + 1) * 4294967296 ≤ (q + 1) * top * 4294967296 := Nat.mul_le_mul_right _ h
  omega
/-- what a taking leaves -/
theorem took {S Y q n b M : Nat} (h : n + q * Y = S + M * b) (hb : b ≤ 1) (hn : n < M) (hSM : S < M) (h1 : (q - 1) * Y ≤ S) (h2 : S < (q + 1) * Y) (hY : 0 < Y) :
    (b = 0 → q = S / Y ∧ n = S % Y) ∧ (b = 1 → 0 < q ∧ q - 1 = S / Y ∧ n + Y = S % Y + M) := by
  have hdm := Nat.div_add_mod S Y
  have hml := Nat.mod_lt S hY
  constructor
  · rintro rfl
    have e : q = S / Y := by
      refine Nat.le_antisymm ((Nat.le_div_iff_mul_le hY).2 (by omega)) ?_
      have := (Nat.div_lt_iff_lt_mul hY).2 h2
      omega
    refine ⟨e, ?_⟩
    rw [Nat.mul_comm, ← e] at hdm
    omega
  · rintro rfl
    have hq0 : 0 < q := by
      rcases Nat.eq_zero_or_pos q with e | e
      · subst e
        omega
      · exact e
    obtain ⟨k, rfl⟩ : ∃ k, q = k + 1 := ⟨q - 1, by omega⟩
    rw [Nat.add_sub_cancel] at h1 ⊢
    rw [Nat.add_mul, Nat.one_mul] at h
    have e : k = S / Y := by
      refine Nat.le_antisymm ((Nat.le_div_iff_mul_le hY).2 h1) ?_
      have h3 : S < (k + 1) * Y := by rw [Nat.add_mul]; omega
      have := (Nat.div_lt_iff_lt_mul hY).2 h3
      omega
    refine ⟨by omega, e, ?_⟩
    rw [Nat.mul_comm, ← e] at hdm
    omega
theorem back_step {n x R : Nat} (hn : n ≤ 32) (hx : x < 4294967296) : (x + 4294967296 * R) / 2 ^ n = (R % 4294967296 * 4294967296 + x) / 2 ^ n % 4294967296 + 4294967296 * (R / 2 ^ n) := by
  obtain ⟨D, hD⟩ : ∃ D, D = 2 ^ n := ⟨_, rfl⟩
  have hD0 : 0 < D := by rw [hD]; exact Nat.pow_pos (by omega)
  have hdvd : D ∣ 4294967296 := by
    rw [hD, show (4294967296 : Nat) = 2 ^ 32 from rfl]
    exact Nat.pow_dvd_pow 2 hn
  rw [← hD]
  have h1 := Nat.div_add_mod R D
  have h2 := Nat.div_add_mod (R % 4294967296) D
  rw [Nat.mod_mod_of_dvd R hdvd] at h2
  have hs := Nat.mod_lt R hD0
  generalize R % D = s at *
  generalize R / D = q at *
  generalize R % 4294967296 / D = q' at *
  have e1 : x + 4294967296 * R = (s * 4294967296 + x) + D * (4294967296 * q) := by
    rw [← h1, Nat.mul_add, Nat.mul_left_comm]
    omega
  have e2 : R % 4294967296 * 4294967296 + x = (s * 4294967296 + x) + D * (q' * 4294967296) := by
    rw [← h2, Nat.add_mul, Nat.mul_assoc]
    omega
  rw [e1, e2, Nat.add_mul_div_left _ _ hD0, Nat.add_mul_div_left _ _ hD0, Nat.add_mul_mod_self_right]
  have hlt : (s * 4294967296 + x) / D < 4294967296 := by
    rw [Nat.div_lt_iff_lt_mul hD0]
    have : (s + 1) * 4294967296 ≤ D * 4294967296 := Nat.mul_le_mul_right _ hs
    omega
  rw [Nat.mod_eq_of_lt hlt]
/-- one step of a shift: what is carried stays below 2^n -/
theorem shift_lt {n w c : Nat} (hn : n ≤ 32) (hc : c < 2 ^ n) (hw : w < 4294967296) : c + w * 2 ^ n < 4294967296 * 2 ^ n := by
  have : (w + 1) * 2 ^ n ≤ 4294967296 * 2 ^ n := Nat.mul_le_mul_right _ hw
  rw [Nat.add_mul] at this
  omega
end Go.Proofs.YtckfnbckoclhpaaDoor
