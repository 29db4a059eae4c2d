/- Plain laws: classes as a forest towards the least: 'rt'. No program in sight. -/
import Derived.KernelRfl
set_option linter.unusedVariables false
namespace Go.Proofs.Ytckfnbckoclhpaa

def rtF (f : Nat → Nat) : Nat → Nat → Nat
  | 0, a => a
  | k + 1, a => if f a = a then a else rtF f k (f a)
/-- the least of a's class -/
def rt (f : Nat → Nat) (a : Nat) : Nat := rtF f a a
/-- f with another value at a -/
def upd (f : Nat → Nat) (a v : Nat) : Nat → Nat := fun i => if i = a then v else f i

theorem rtF_enough {f : Nat → Nat} (hf : ∀ i, f i ≤ i) : ∀ k a m, a ≤ k → a ≤ m → rtF f k a = rtF f m a := by
  intro k
  induction k with
  | zero =>
    intro a m h1 _
    obtain rfl : a = 0 := by omega
    cases m with
    | zero => rfl
    | succ m =>
      have h0 : f 0 = 0 := by have := hf 0; omega
      simp [rtF, h0]
  | succ k ih =>
    intro a m h1 h2
    cases m with
    | zero =>
      obtain rfl : a = 0 := by omega
      have h0 : f 0 = 0 := by have := hf 0; omega
      simp [rtF, h0]
    | succ m =>
      simp only [rtF]
      by_cases h : f a = a
      · rw [if_pos h, if_pos h]
      · rw [if_neg h, if_neg h]
        have := hf a
        exact ih (f a) m (by omega) (by omega)
theorem rt_fix {f : Nat → Nat} {a : Nat} (h : f a = a) : rt f a = a := by
  unfold rt
  cases a with
  | zero => rfl
  | succ a => simp [rtF, h]
theorem rt_step {f : Nat → Nat} (hf : ∀ i, f i ≤ i) (a : Nat) : rt f (f a) = rt f a := by
  by_cases h : f a = a
  · rw [h]
  · have h1 := hf a
    have h2 : rt f a = rtF f (a + 1) a := rtF_enough hf _ _ _ (Nat.le_refl _) (by omega)
    rw [h2]
    simp only [rtF]
    rw [if_neg h]
    exact rtF_enough hf _ _ _ (Nat.le_refl _) h1
theorem rt_root {f : Nat → Nat} (hf : ∀ i, f i ≤ i) (a : Nat) : f (rt f a) = rt f a ∧ rt f a ≤ a := by
  induction a using Nat.strongRecOn with
  | _ a ih =>
    by_cases h : f a = a
    · rw [rt_fix h]
      exact ⟨h, Nat.le_refl _⟩
    · have h1 := hf a
      obtain ⟨h2, h3⟩ := ih (f a) (by omega)
      rw [rt_step hf] at h2 h3
      exact ⟨h2, by omega⟩
theorem rt_le {f : Nat → Nat} (hf : ∀ i, f i ≤ i) (a : Nat) : rt f a ≤ a := (rt_root hf a).2
theorem upd_le {f : Nat → Nat} (hf : ∀ i, f i ≤ i) {a v : Nat} (h : v ≤ a) : ∀ i, upd f a v i ≤ i := by
  intro i
  unfold upd
  split
  · omega
  · exact hf i
theorem rt_halve {f : Nat → Nat} (hf : ∀ i, f i ≤ i) (a : Nat) : ∀ i, rt (upd f a (f (f a))) i = rt f i := by
  have hg : ∀ i, upd f a (f (f a)) i ≤ i := upd_le hf (by have := hf a; have := hf (f a); omega)
  intro i
  induction i using Nat.strongRecOn with
  | _ i ih =>
    by_cases hi : i = a
    · subst hi
      by_cases h : f (f i) = i
      · have h1 : f i = i := by have := hf i; have := hf (f i); omega
        rw [rt_fix h1, rt_fix (by simp [upd, h])]
      · have h1 : upd f i (f (f i)) i = f (f i) := by simp [upd]
        rw [← rt_step hg i, h1, ih _ (by have := hf i; have := hf (f i); omega), rt_step hf, rt_step hf]
    · have h1 : upd f a (f (f a)) i = f i := by simp [upd, hi]
      by_cases h : f i = i
      · rw [rt_fix h, rt_fix (by rw [h1]; exact h)]
      · rw [← rt_step hg i, h1, ih _ (by have := hf i; omega), rt_step hf]
theorem rt_union {f : Nat → Nat} (hf : ∀ i, f i ≤ i) {x y : Nat} (hx : f x = x) (hy : f y = y) (hxy : x < y) : ∀ i, rt (upd f y x) i = if rt f i = y then x else rt f i := by
  have hg : ∀ i, upd f y x i ≤ i := upd_le hf (by omega)
  have gx : upd f y x x = x := by simp [upd, hx]
  intro i
  induction i using Nat.strongRecOn with
  | _ i ih =>
    by_cases hi : i = y
    · subst hi
      have h1 : upd f i x i = x := by simp [upd]
      rw [← rt_step hg i, h1, rt_fix gx, rt_fix hy, if_pos rfl]
    · have h1 : upd f y x i = f i := by simp [upd, hi]
      by_cases h : f i = i
      · rw [rt_fix h, rt_fix (by rw [h1]; exact h), if_neg hi]
      · rw [← rt_step hg i, h1, ih _ (by have := hf i; omega), rt_step hf]
end Go.Proofs.Ytckfnbckoclhpaa
