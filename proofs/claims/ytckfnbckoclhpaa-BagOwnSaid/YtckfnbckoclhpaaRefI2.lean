/- The document's rising lists are the sets: Of. -/
import Derived.Test.YtckfnbckoclhpaaRefI
set_option linter.unusedVariables false
namespace Go.Proofs.Ytckfnbckoclhpaa
open Go.RowKit

def ins (x : Int) : List Int → List Int
  | [] => [x]
  | y :: l => if x < y then x :: y :: l else y :: ins x l
theorem foldl_true (x : Int) (l : List Int) : ∀ out, l.foldl (pstep x) (true, out) = (true, out ++ l) := by
  induction l with
  | nil => intro out; simp
  | cons y l ih =>
    intro out
    rw [List.foldl_cons]
    have : pstep x (true, out) y = (true, out ++ [y]) := by simp [pstep]
    rw [this, ih]
    simp
theorem foldl_false (x : Int) (l : List Int) : ∀ out, (if (l.foldl (pstep x) (false, out)).1 = true then (l.foldl (pstep x) (false, out)).2 else (l.foldl (pstep x) (false, out)).2 ++ [x]) = out ++ ins x l := by
  induction l with
  | nil => intro out; simp [ins]
  | cons y l ih =>
    intro out
    rw [List.foldl_cons]
    by_cases h : x < y
    · have : pstep x (false, out) y = (true, out ++ [x] ++ [y]) := by simp [pstep, h]
      rw [this, foldl_true]
      simp [ins, h]
    · have : pstep x (false, out) y = (false, out ++ [y]) := by simp [pstep, h]
      rw [this, ih]
      simp [ins, h]
theorem putL_ins (x : Int) (l : List Int) : putL x l = ins x l := by
  have := foldl_false x l []
  rw [List.nil_append] at this
  exact this
theorem mem_ins (x : Int) (l : List Int) (y : Int) : y ∈ ins x l ↔ y = x ∨ y ∈ l := by
  induction l with
  | nil => simp [ins]
  | cons z l ih =>
    unfold ins
    split
    · simp
    · rw [List.mem_cons, ih, List.mem_cons]
      constructor
      · rintro (h | h | h) <;> simp [h]
      · rintro (h | h | h) <;> simp [h]
theorem ins_rising (x : Int) (l : List Int) (h : l.Pairwise (· < ·)) (hx : x ∉ l) : (ins x l).Pairwise (· < ·) := by
  induction l with
  | nil => simp [ins]
  | cons z l ih =>
    rw [List.pairwise_cons] at h
    unfold ins
    split
    · rename_i hlt
      rw [List.pairwise_cons, List.pairwise_cons]
      refine ⟨fun y hy => ?_, h⟩
      rw [List.mem_cons] at hy
      rcases hy with rfl | hy
      · exact hlt
      · exact Int.lt_trans hlt (h.1 y hy)
    · rename_i hlt
      have hne : x ≠ z := fun e => hx (by simp [e])
      rw [List.pairwise_cons]
      refine ⟨fun y hy => ?_, ih h.2 (fun hm => hx (by simp [hm]))⟩
      rw [mem_ins] at hy
      rcases hy with rfl | hy
      · omega
      · exact h.1 y hy
theorem norm_snoc_new (l : List Int) (x : Int) (hx : x ∉ norm l) : norm (l ++ [x]) = putL x (norm l) := by
  rw [putL_ins]
  refine norm_eq _ _ (ins_rising x _ (norm_rising l) hx) (fun y => ?_)
  rw [mem_ins, mem_norm, List.mem_append, List.mem_singleton]
  exact Or.comm
theorem norm_snoc_old (l : List Int) (x : Int) (hx : x ∈ norm l) : norm (l ++ [x]) = norm l := by
  refine norm_eq _ _ (norm_rising l) (fun y => ?_)
  rw [mem_norm] at hx
  rw [mem_norm, List.mem_append, List.mem_singleton]
  constructor
  · rintro (h | rfl)
    · exact h
    · exact hx
  · exact .inl
theorem norm_nil : norm [] = [] := norm_eq _ _ (by simp) (by simp)

set_option maxHeartbeats 1000000 in
set_option maxRecDepth 100000 in
theorem refOf_int (A : Option Addr) (n c : Nat) (zs : List Int) (w : World) (h : Sl w 1 A n c (ivs zs)) (hn : n ≤ 1000000) :
    Calls Try.prog 26 #[.slice A n c] w fun e w' => ∃ A' n' c', e = .returned (.slice A' n' c') ∧ n' ≤ n ∧ Sl w' 1 A' n' c' (ivs (norm zs)) ∧ Pu w w' := by
  have hl : zs.length = n := by have := h.1; simpa using this
  go_enter Try.func26, Try.ntmps26
  go_wp2_with fail
  go_loopw [3, 4] (fun v i wr => ∃ (k n' : Nat) (A' : Option Addr) (c' : Nat) (l : List Int), k ≤ n ∧ n' ≤ k ∧ l = norm (zs.take k) ∧ i = .int .i64 k ∧ v = .slice A' n' c' ∧ Sl wr 1 A' n' c' (ivs l) ∧ Pu w wr) (fun _ i _ => n - (intOf i).toNat)
  case atStart => exact ⟨0, 0, none, 0, [], Nat.zero_le _, Nat.zero_le _, by simp [norm_nil], rfl, rfl, Sl.nil _ _ _ _, Pu.refl _⟩
  case round =>
    obtain ⟨k, n', A', c', l, hk, hnk, hle, rfl, rfl, hs, hP⟩ := hrel
    have Hl := Lib.hid hle
    clear hle
    by_cases hlt : k < n
    · obtain ⟨g, off, u, rfl, _, hu, hc⟩ := (h.pu hP).at_ hlt
      obtain rfl := ivs_get (by omega) hu
      clear hu
      have htk := Lib.hid (List.take_succ_eq_append_getElem (l := zs) (i := k) (by omega))
      generalize zs[k] = z at *
      by_cases hin : z ∈ l
      · have hin' := Lib.hid hin
        clear hin
        go_wp2_with fail
        refine (refPut_old A' n' c' l z _ hs (by omega) hin'.out).mono ?_
        rintro e w1 ⟨rfl, h1⟩
        go_wp2
        go_roundw
        case rel => exact ⟨k + 1, n', A', c', l, by omega, by omega, by rw [htk.out, norm_snoc_old _ _ (by rw [← Hl.out]; exact hin'.out), Hl.out], by go_num, rfl, hs.pu h1, hP.trans h1⟩
        case measure => simp [intOf]; omega
      · have hin' := Lib.hid hin
        clear hin
        go_wp2_with fail
        refine (refPut_new A' n' c' l z _ hs (by omega) hin'.out).mono ?_
        rintro e w1 ⟨A1, c1, rfl, hs1, h1⟩
        go_wp2
        go_roundw
        case rel => exact ⟨k + 1, n' + 1, A1, c1, _, by omega, by omega, by rw [htk.out, norm_snoc_new _ _ (by rw [← Hl.out]; exact hin'.out), Hl.out], by go_num, rfl, hs1, hP.trans h1⟩
        case measure => simp [intOf]; omega
    · go_wp2
      go_ret
      refine ⟨A', n', c', rfl, by omega, ?_, hP⟩
      have e1 : l = norm zs := by rw [Hl.out, List.take_of_length_le (by omega)]
      rw [← e1]
      exact hs
end Go.Proofs.Ytckfnbckoclhpaa
