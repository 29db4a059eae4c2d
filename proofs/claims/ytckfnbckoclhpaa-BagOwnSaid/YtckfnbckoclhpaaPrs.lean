/- Pairs of numbers, two cells each: their cells; lists of pairs by rising keys. -/
import Derived.Test.YtckfnbckoclhpaaBase
set_option linter.unusedVariables false
namespace Go.Proofs.Ytckfnbckoclhpaa
open Go.RowKit

abbrev prs (l : List (Int × Int)) : List Value := l.flatMap fun p => [.int .i64 p.1, .int .i64 p.2]
theorem prs_len : ∀ (l : List (Int × Int)), (prs l).length = l.length * 2
  | [] => rfl
  | p :: l => by
    have := prs_len l
    simp only [prs, List.flatMap_cons, List.length_append, List.length_cons, List.length_nil] at this ⊢
    omega
theorem prs_append (l l' : List (Int × Int)) : prs (l ++ l') = prs l ++ prs l' := by simp [prs]
theorem prs_one (l : List (Int × Int)) : ∀ u ∈ prs l, u.oneCell' = true := by
  intro u hu
  simp only [prs, List.mem_flatMap] at hu
  obtain ⟨p, _, hu⟩ := hu
  simp at hu
  rcases hu with rfl | rfl <;> rfl
theorem prs_take : ∀ (l : List (Int × Int)) (i : Nat), prs (l.take i) = (prs l).take (i * 2)
  | [], i => by simp [prs]
  | p :: l, 0 => by simp [prs]
  | p :: l, i + 1 => by
    have := prs_take l i
    have e : (i + 1) * 2 = i * 2 + 2 := by omega
    rw [e]
    simpa [prs] using this
theorem prs_drop : ∀ (l : List (Int × Int)) (i : Nat), prs (l.drop i) = (prs l).drop (i * 2)
  | [], i => by simp [prs]
  | p :: l, 0 => by simp [prs]
  | p :: l, i + 1 => by
    have := prs_drop l i
    have e : (i + 1) * 2 = i * 2 + 2 := by omega
    rw [e]
    simpa [prs] using this
theorem prs_get (l : List (Int × Int)) : ∀ (j : Nat) (p : Int × Int), l[j]? = some p → (prs l)[j * 2]? = some (.int .i64 p.1) ∧ (prs l)[j * 2 + 1]? = some (.int .i64 p.2) := by
  induction l with
  | nil => intro j p h; simp at h
  | cons q l ih =>
    intro j p h
    cases j with
    | zero =>
      simp at h
      subst h
      simp [prs]
    | succ j =>
      have := ih j p (by simpa using h)
      have e : (j + 1) * 2 = j * 2 + 2 := by omega
      rw [e]
      simpa [prs] using this
theorem prs_at {w : World} {A : Option Addr} {n c : Nat} {l : List (Int × Int)} (h : Sl w 2 A n c (prs l)) {j : Nat} {p : Int × Int} (hj : l[j]? = some p) :
    ∃ b off, A = some ⟨b, off, none⟩ ∧ b < w.heap.size ∧ w.cell? ⟨b, off + j * 2, none⟩ = some (.int .i64 p.1) ∧ w.cell? ⟨b, off + j * 2 + 1, none⟩ = some (.int .i64 p.2) := by
  have hl := h.1
  rw [prs_len] at hl
  have hj' := (List.getElem?_eq_some_iff.1 hj).1
  obtain ⟨b, off, rfl, hb, hc⟩ := h.2.2 (by omega)
  obtain ⟨h1, h2⟩ := prs_get l j p hj
  exact ⟨b, off, rfl, hb, hc _ _ h1, hc _ _ h2⟩
theorem Sl.prs_len {w : World} {A : Option Addr} {n c : Nat} {l : List (Int × Int)} (h : Sl w 2 A n c (prs l)) : l.length = n := by
  have := h.1
  rw [Go.Proofs.Ytckfnbckoclhpaa.prs_len] at this
  omega

/-- keys rise -/
def Rise (l : List (Int × Int)) : Prop := l.Pairwise fun p q => p.1 < q.1
/-- a key's place -/
def place (l : List (Int × Int)) (k : Int) : Nat := l.countP fun p => decide (p.1 < k)
/-- is a key there? -/
def there (l : List (Int × Int)) (k : Int) : Bool := l.any fun p => decide (p.1 = k)

theorem place_le (l : List (Int × Int)) (k : Int) : place l k ≤ l.length := List.countP_le_length
theorem place_spec (k : Int) : ∀ (l : List (Int × Int)), Rise l → ∀ j p, l[j]? = some p → (j < place l k ↔ p.1 < k)
  | [], _, j, p, h => by simp at h
  | q :: l, hr, j, p, h => by
    have hr' : Rise l := (List.pairwise_cons.1 hr).2
    have hq := (List.pairwise_cons.1 hr).1
    have ih := place_spec k l hr'
    unfold place at *
    by_cases c : q.1 < k
    · rw [List.countP_cons_of_pos (by simpa using c)]
      cases j with
      | zero =>
        simp at h
        subst h
        simp [c]
      | succ j =>
        have := ih j p (by simpa using h)
        omega
    · rw [List.countP_cons_of_neg (by simpa using c)]
      have z : l.countP (fun p => decide (p.1 < k)) = 0 := by
        rw [List.countP_eq_zero]
        intro p hp
        have := hq p hp
        simp
        omega
      rw [z]
      cases j with
      | zero =>
        simp at h
        subst h
        simp [c]
      | succ j =>
        have := hq p (List.mem_of_getElem? (l := l) (i := j) (by simpa using h))
        omega
theorem rise_lt {l : List (Int × Int)} (hr : Rise l) {i j : Nat} {p q : Int × Int} (hi : l[i]? = some p) (hj : l[j]? = some q) (hij : i < j) : p.1 < q.1 := by
  obtain ⟨hi', rfl⟩ := List.getElem?_eq_some_iff.1 hi
  obtain ⟨hj', rfl⟩ := List.getElem?_eq_some_iff.1 hj
  exact List.pairwise_iff_getElem.1 hr i j hi' hj' hij
/-- a key is there just if it stands at its place -/
theorem there_iff {l : List (Int × Int)} (hr : Rise l) (k : Int) : there l k = true ↔ ∃ v, l[place l k]? = some (k, v) := by
  constructor
  · intro h
    obtain ⟨p, hp, hk⟩ := List.any_eq_true.1 h
    have hk : p.1 = k := by simpa using hk
    obtain ⟨j, hj⟩ := List.getElem?_of_mem hp
    have h1 := place_spec k l hr j p hj
    have hjl := (List.getElem?_eq_some_iff.1 hj).1
    have h2 : place l k ≤ j := by omega
    have h3 : j ≤ place l k := by
      rcases Nat.lt_or_ge (place l k) j with h | h
      · have h4 := rise_lt hr (List.getElem?_eq_getElem (show place l k < l.length by omega)) hj h
        have h5 := (place_spec k l hr (place l k) _ (List.getElem?_eq_getElem (by omega))).2 (by omega)
        omega
      · exact h
    have e : place l k = j := by omega
    exact ⟨p.2, by rw [e, hj, ← hk]⟩
  · rintro ⟨v, hv⟩
    exact List.any_eq_true.2 ⟨_, List.mem_of_getElem? hv, by simp⟩
theorem not_there {l : List (Int × Int)} {k : Int} (h : there l k = false) {j : Nat} {p : Int × Int} (hj : l[j]? = some p) : p.1 ≠ k := by
  intro e
  have : there l k = true := List.any_eq_true.2 ⟨p, List.mem_of_getElem? hj, by simpa using e⟩
  rw [h] at this
  cases this

/-- a key's value is set -/
def putM (l : List (Int × Int)) (k v : Int) : List (Int × Int) := if there l k then l.take (place l k) ++ (k, v) :: l.drop (place l k + 1) else l.take (place l k) ++ (k, v) :: l.drop (place l k)
/-- a key's value is taken away -/
def dropM (l : List (Int × Int)) (k : Int) : List (Int × Int) := if there l k then l.take (place l k) ++ l.drop (place l k + 1) else l

theorem there_at {l : List (Int × Int)} (hr : Rise l) {k : Int} {j : Nat} {p : Int × Int} (hj : l[j]? = some p) (e : p.1 = k) : there l k = true ∧ place l k = j := by
  have h1 : there l k = true := List.any_eq_true.2 ⟨p, List.mem_of_getElem? hj, by simpa using e⟩
  refine ⟨h1, ?_⟩
  have h2 := place_spec k l hr j p hj
  obtain ⟨v, hv⟩ := (there_iff hr k).1 h1
  have h3 : ¬ place l k < j := fun h => by
    have := rise_lt hr hv hj h
    simp at this
    omega
  omega

/-- what the document's Set has laid when it has seen j pairs -/
def setPre (l : List (Int × Int)) (i f : Nat) (k v : Int) (j : Nat) : List (Int × Int) := if j ≤ i then l.take j else l.take i ++ (k, v) :: (l.take j).drop (i + f)
section
variable {l : List (Int × Int)} {i f j : Nat} {k v : Int} {p : Int × Int}
theorem pre_below (hj : l[j]? = some p) (h : j < i) : setPre l i f k v (j + 1) = setPre l i f k v j ++ [p] := by
  unfold setPre
  rw [if_pos (by omega), if_pos (by omega), List.take_add_one, hj]
  rfl
theorem pre_same : setPre l i 1 k v (i + 1) = setPre l i 1 k v i ++ [(k, v)] := by
  unfold setPre
  rw [if_neg (by omega), if_pos (Nat.le_refl _), List.drop_eq_nil_of_le (by simp; omega)]
theorem pre_new (hj : l[i]? = some p) : setPre l i 0 k v (i + 1) = setPre l i 0 k v i ++ [(k, v)] ++ [p] := by
  have hi := (List.getElem?_eq_some_iff.1 hj).1
  unfold setPre
  rw [if_neg (by omega), if_pos (Nat.le_refl _), List.take_add_one, hj, Nat.add_zero, List.drop_append_of_le_length (by simp; omega), List.drop_eq_nil_of_le (by simp; omega)]
  simp
theorem pre_above (hj : l[j]? = some p) (h : i < j) (hf : f ≤ 1) : setPre l i f k v (j + 1) = setPre l i f k v j ++ [p] := by
  have hi := (List.getElem?_eq_some_iff.1 hj).1
  unfold setPre
  rw [if_neg (by omega), if_neg (by omega), List.take_add_one, hj, List.drop_append_of_le_length (by simp; omega)]
  simp
end
theorem pre_end {l : List (Int × Int)} {k v : Int} (h : place l k < l.length) : setPre l (place l k) (if there l k then 1 else 0) k v l.length = putM l k v := by
  unfold setPre putM
  rw [if_neg (by omega), List.take_of_length_le (Nat.le_refl l.length)]
  split <;> simp
theorem pre_last {l : List (Int × Int)} (hr : Rise l) {k v : Int} (h : ¬ place l k < l.length) (f : Nat) : setPre l (place l k) f k v l.length ++ [(k, v)] = putM l k v := by
  have hp := place_le l k
  have ht : there l k = false := by
    cases hb : there l k with
    | false => rfl
    | true =>
      obtain ⟨u, hu⟩ := (there_iff hr k).1 hb
      have := (List.getElem?_eq_some_iff.1 hu).1
      omega
  unfold setPre putM
  rw [ht, if_pos (by omega), List.take_of_length_le (Nat.le_refl l.length), if_neg (by simp), List.take_of_length_le (by omega), List.drop_eq_nil_of_le (by omega)]

theorem take_lt {l : List (Int × Int)} (hr : Rise l) {k : Int} : ∀ p ∈ l.take (place l k), p.1 < k := by
  intro p hp
  obtain ⟨j, hj⟩ := List.getElem?_of_mem hp
  rw [List.getElem?_take] at hj
  split at hj
  · rename_i h
    exact (place_spec k l hr j p hj).1 h
  · cases hj
theorem drop_ge {l : List (Int × Int)} (hr : Rise l) {k : Int} {m : Nat} (hm : place l k ≤ m) : ∀ p ∈ l.drop m, k ≤ p.1 := by
  intro p hp
  obtain ⟨j, hj⟩ := List.getElem?_of_mem hp
  rw [List.getElem?_drop] at hj
  have := place_spec k l hr _ p hj
  omega
theorem putM_rise {l : List (Int × Int)} (hr : Rise l) (k v : Int) : Rise (putM l k v) := by
  have key : ∀ m, place l k ≤ m → (∀ p ∈ l.drop m, p.1 ≠ k) → Rise (l.take (place l k) ++ (k, v) :: l.drop m) := fun m hm hne => by
    unfold Rise
    rw [List.pairwise_append, List.pairwise_cons]
    refine ⟨hr.sublist (List.take_sublist _ _), ⟨fun p hp => ?_, hr.sublist (List.drop_sublist _ _)⟩, fun p hp q hq => ?_⟩
    · have h1 := drop_ge hr hm p hp
      have h2 := hne p hp
      show k < p.1
      omega
    · have h1 := take_lt hr p hp
      rcases List.mem_cons.1 hq with rfl | hq
      · exact h1
      · have := drop_ge hr hm q hq
        omega
  unfold putM
  split
  · rename_i h
    obtain ⟨u, hu⟩ := (there_iff hr k).1 h
    refine key _ (Nat.le_succ _) fun p hp => ?_
    obtain ⟨j, hj⟩ := List.getElem?_of_mem hp
    rw [List.getElem?_drop] at hj
    have := rise_lt hr hu hj (by omega)
    simp at this
    omega
  · rename_i h
    refine key _ (Nat.le_refl _) fun p hp => ?_
    obtain ⟨j, hj⟩ := List.getElem?_of_mem hp
    rw [List.getElem?_drop] at hj
    exact not_there (by simpa using h) hj
theorem dropM_rise {l : List (Int × Int)} (hr : Rise l) (k : Int) : Rise (dropM l k) := by
  unfold dropM
  split
  · refine hr.sublist ?_
    have h1 : (l.drop (place l k + 1)).Sublist (l.drop (place l k)) := by
      have := List.drop_sublist 1 (l.drop (place l k))
      rwa [List.drop_drop] at this
    have := (List.Sublist.refl (l.take (place l k))).append h1
    rwa [List.take_append_drop] at this
  · exact hr
theorem putM_len (l : List (Int × Int)) (k v : Int) : (putM l k v).length ≤ l.length + 1 := by
  have := place_le l k
  unfold putM
  split <;> simp <;> omega
theorem dropM_len (l : List (Int × Int)) (k : Int) : (dropM l k).length ≤ l.length := by
  have := place_le l k
  unfold dropM
  split <;> simp <;> omega
end Go.Proofs.Ytckfnbckoclhpaa
