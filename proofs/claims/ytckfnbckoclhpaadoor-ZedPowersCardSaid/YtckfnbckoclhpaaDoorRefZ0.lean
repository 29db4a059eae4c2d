/- The document's numbers (decimal digits as ints): plain sums; the word RZ. -/
import Derived.Test.YtckfnbckoclhpaaDoorZed3
import Derived.Test.YtckfnbckoclhpaaDoorZMul0
set_option linter.unusedVariables false
namespace Go.Proofs.YtckfnbckoclhpaaDoor
open Go.RowKit

/-- the cells of digits as ints -/
abbrev dws (l : List Nat) : List Value := l.map fun x : Nat => Value.int .i64 (x : Int)
theorem Sl.dlen {w : World} {A : Option Addr} {n c : Nat} {l : List Nat} (h : Sl w 1 A n c (dws l)) : l.length = n := by have := h.1; simpa using this
theorem Sl.dat {w : World} {A : Option Addr} {n c : Nat} {l : List Nat} (h : Sl w 1 A n c (dws l)) {j x : Nat} (hj : l[j]? = some x) : ∃ b off, A = some ⟨b, off, none⟩ ∧ b < w.heap.size ∧ w.cell? ⟨b, off + j, none⟩ = some (.int .i64 (x : Int)) := by
  have hl := h.dlen
  have := (List.getElem?_eq_some_iff.1 hj).1
  obtain ⟨b, off, u, e, hb, hu, hc⟩ := h.at_ (j := j) (by omega)
  refine ⟨b, off, e, hb, ?_⟩
  rw [List.getElem?_map, hj] at hu
  injection hu with hu
  rw [hc, ← hu]
theorem dws_take (l : List Nat) (k : Nat) : dws (l.take k) = (dws l).take k := by simp [List.map_take]
theorem tidied_Dl {w : World} {A : Option Addr} {n c : Nat} {l : List Nat} (h : Sl w 1 A n c (dws l)) : Sl w 1 A (tidied l).length c (dws (tidied l)) := by
  have hl := h.dlen
  obtain ⟨k, hk, e⟩ := tidied_prefix l
  have h1 := h.pre (k := k) (by omega)
  rw [← dws_take, ← e] at h1
  have h2 := h1.dlen
  rwa [← h2] at h1
/-- a slice's block is one of ints -/
def IntAt (w : World) (A : Option Addr) : Prop := ∀ b off, A = some ⟨b, off, none⟩ → ∃ cs fz, w.heap[b]? = some (.cells cs 3 fz)
theorem IntAt.none (w : World) : IntAt w none := fun b off e => by cases e
theorem IntAt.fr {S : Nat → Prop} {w w' : World} {A : Option Addr} (h : IntAt w A) (hf : Fr S w w') (hs : ∀ b off cs fz, A = some ⟨b, off, .none⟩ → w.heap[b]? = some (.cells cs 3 fz) → ¬ S b) : IntAt w' A := fun b off e => by
  obtain ⟨cs, fz, hb⟩ := h b off e
  exact ⟨cs, fz, (hf.block b (Array.getElem?_eq_some_iff.1 hb).1 (hs b off cs fz e hb)).trans hb⟩
theorem IntAt.pu {w w' : World} {A : Option Addr} (h : IntAt w A) (hp : Pu w w') : IntAt w' A := h.fr hp (fun _ _ _ _ _ _ x => x)
theorem IntAt.ne {w : World} {A : Option Addr} {rb : Nat} {t : TypeId} {cs : Array Value} (h : IntAt w A) (hb : Blk w rb t cs) (ht : t ≠ 3) : ∀ b off, A = some ⟨b, off, .none⟩ → b ≠ rb := by
  rintro b off e rfl
  obtain ⟨cs', fz, hb'⟩ := h b off e
  unfold Blk at hb
  rw [hb] at hb'
  injection hb' with hb'
  injection hb' with _ ht'
  exact ht ht'
theorem IntAt.of_own {w : World} {base k n c : Nat} {A : Option Addr} {xs : List Value} (h : w.ownsRow base 3 k (.slice A n c) n xs) : IntAt w A := fun b off e => by
  rcases h.2 with ⟨hv, _⟩ | ⟨g, cap, cur, hv, _, hg, _⟩
  · injection hv with hA _ _
    rw [hA] at e
    cases e
  · injection hv with hA _ _
    rw [hA] at e
    injection e with e
    injection e with e1 _
    subst e1
    exact ⟨cur, _, hg⟩
/-- v is the document's number z -/
def RZ (w : World) (v : Value) (z : Int) : Prop :=
  ∃ A n c l, v = .agg #[.int .i64 z.sign, .slice A n c] ∧ Sl w 1 A n c (dws l) ∧ Below_ 10 l ∧ Tidy l ∧ pval 10 l = z.natAbs ∧ c ≤ maxLen ∧ IntAt w A
theorem RZ.fr {w w' : World} {v : Value} {z : Int} {rb : Nat} {t : TypeId} {cs : Array Value} (h : RZ w v z) (hb : Blk w rb t cs) (ht : t ≠ 3) (hf : Fr (fun k => k = rb) w w') : RZ w' v z := by
  obtain ⟨A, n, c, l, h1, h2, h3, h4, h5, h6, h7⟩ := h
  have hne := h7.ne hb ht
  exact ⟨A, n, c, l, h1, h2.fr hf (fun _ b off e => hne b off e), h3, h4, h5, h6, h7.fr hf (fun b off _ _ e _ => hne b off e)⟩
theorem RZ.pu {w w' : World} {v : Value} {z : Int} (h : RZ w v z) (hp : Pu w w') : RZ w' v z := by
  obtain ⟨A, n, c, l, h1, h2, h3, h4, h5, h6, h7⟩ := h
  exact ⟨A, n, c, l, h1, h2.pu hp, h3, h4, h5, h6, h7.pu hp⟩
theorem tidy_len10 {l : List Nat} (ht : Tidy l) {k : Nat} (h : pval 10 l < 10 ^ k) : l.length ≤ k := by
  rcases Decidable.em (l = []) with e | e
  · subst e
    exact Nat.zero_le _
  · have h1 := pval_ge (b := 10) (by omega) ht e
    have h2 := (Nat.pow_lt_pow_iff_right (a := 10) (by omega)).1 (Nat.lt_of_le_of_lt h1 h)
    omega
theorem pval_pos10 {l : List Nat} (ht : Tidy l) (hl : l ≠ []) : 0 < pval 10 l := by
  have h := pval_ge (b := 10) (by omega) ht hl
  have := Nat.pow_pos (n := l.length - 1) (show 0 < 10 by omega)
  omega
theorem RZ.zero (w : World) : RZ w (.agg #[.int .i64 0, .slice none 0 0]) 0 := ⟨none, 0, 0, [], rfl, Sl.nil _ _ _ _, Below_.nil _, tidy_nil, rfl, by simp [maxLen], IntAt.none w⟩
theorem sign_mul_pos {s : Int} {V : Nat} (hs : s = 1 ∨ s = -1) (hV : 0 < V) : (s * (V : Int)).sign = s ∧ (s * (V : Int)).natAbs = V := by
  rcases hs with rfl | rfl
  · rw [Int.one_mul]
    exact ⟨Int.sign_eq_one_of_pos (by omega), by simp⟩
  · rw [Int.neg_one_mul]
    exact ⟨Int.sign_eq_neg_one_of_neg (by omega), by simp⟩

/-- sums of digits -/
theorem dsum_step {s p c t r q v b : Nat} (h : s + p * c = t) (e : b * q + r = v + c) : s + p * r + p * b * q = t + p * v := by
  have h1 : p * (b * q + r) = p * (v + c) := by rw [e]
  rw [Nat.mul_add, Nat.mul_add, ← Nat.mul_assoc] at h1
  omega
/-- the digit at a place, nought behind the end -/
def dat (l : List Nat) (j : Nat) : Nat := l[j]?.getD 0
theorem dat_some {l : List Nat} {j x : Nat} (h : l[j]? = some x) : dat l j = x := by simp [dat, h]
theorem dat_none {l : List Nat} {j : Nat} (h : l.length ≤ j) : dat l j = 0 := by simp [dat, List.getElem?_eq_none h]
theorem pval_take_dat (b : Nat) (l : List Nat) (j : Nat) : pval b (l.take (j + 1)) = pval b (l.take j) + b ^ j * dat l j := by
  rcases Nat.lt_or_ge j l.length with h | h
  · rw [pval_take_succ (List.getElem?_eq_getElem h), dat_some (List.getElem?_eq_getElem h)]
  · rw [List.take_of_length_le (by omega), List.take_of_length_le h, dat_none h]
    simp
end Go.Proofs.YtckfnbckoclhpaaDoor
