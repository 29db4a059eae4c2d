/- Sets of int: contracts of Of, Items, Len and of the library's functions that they call. -/
import Derived.Test.YtckfnbckoclhpaaBase
import Derived.Test.YtckfnbckoclhpaaSet0
import Derived.Test.YtckfnbckoclhpaaShelf
import Derived.Sort.OwnSortedInts
set_option linter.unusedVariables false
namespace Go.Proofs.Ytckfnbckoclhpaa
open Go.RowKit Go.Sort

abbrev iv (n : Int) : Value := .int .i64 n
abbrev ivs (l : List Int) : List Value := l.map (Value.int .i64)

theorem ivs_notin (zs : List Int) (A : Option Addr) (n c : Nat) : ∀ u ∈ ivs zs, u ∉ (#[Value.slice A n c]).toList := by
  intro u hu
  rw [List.mem_map] at hu
  obtain ⟨z, _, rfl⟩ := hu
  simp
theorem getD_of {zs : List Int} {j : Nat} {u : Value} (h : (ivs zs)[j]? = some u) : u = .int .i64 (zs.getD j 0) := by
  rw [List.getElem?_map] at h
  cases hz : zs[j]? with
  | none => rw [hz] at h; cases h
  | some z =>
    rw [hz] at h
    injection h with h
    rw [← h, List.getD_eq_getElem?_getD, hz]
    rfl

/-- slices.Clone at []int: whatever slice -/
theorem clone_int (A : Option Addr) (n c : Nat) (zs : List Int) (w : World) (h : Sl w 1 A n c (ivs zs)) (hn : n ≤ 1000000) :
    Calls Try.prog 55 #[.slice A n c] w fun e w' => ∃ A' c', e = .returned (.slice A' n c') ∧ w'.ownsRow w.heap.size 3 1 (.slice A' n c') n (ivs zs) ∧ Pu w w' := by
  have hl : zs.length = n := by have := h.1; simpa using this
  rcases Nat.eq_zero_or_pos n with h0 | h0
  · subst h0
    obtain rfl : zs = [] := List.eq_nil_of_length_eq_zero hl
    rcases A with _ | a
    · refine (Try.slices_Clone_int_nil 0 c w).mono ?_
      rintro e w' ⟨rfl, rfl⟩
      exact ⟨none, 0, rfl, World.ownsRow_nil _ _ _ _, Pu.refl _⟩
    · refine (Try.slices_Clone_int_zero a c w).mono ?_
      rintro e w' ⟨v, rfl, hown, hne, hb⟩
      rcases hown.2 with ⟨hv, _⟩ | ⟨g, cap, cur, hv, _⟩
      · exact absurd hv hne
      · subst hv
        exact ⟨_, _, rfl, hown, Pu.of_below hb⟩
  · obtain ⟨b, off, rfl, hlt, hc⟩ := h.2.2 h0
    refine (Try.slices_Clone_int b off n c zs w (by omega) (by omega) (fun j hj => ?_)).mono ?_
    · have hu : (ivs zs)[j]? = some (.int .i64 zs[j]) := by rw [List.getElem?_map, List.getElem?_eq_getElem hj]; rfl
      rw [hc j _ hu, List.getD_eq_getElem?_getD, List.getElem?_eq_getElem hj]
      rfl
    · rintro e w' ⟨v, rfl, hown, hne, hb⟩
      rw [List.take_of_length_le (by omega)] at hown
      rcases hown.2 with ⟨hv, _⟩ | ⟨g, cap, cur, hv, _⟩
      · exact absurd hv hne
      · subst hv
        exact ⟨_, _, rfl, hown, Pu.of_below hb⟩

/-- slices.Sort at []int: a row of the call's own -/
theorem sort_int (base : Nat) (A : Option Addr) (n c : Nat) (zs : List Int) (w : World) (h : w.ownsRow base 3 1 (.slice A n c) n (ivs zs)) (hn : n ≤ 1000000) :
    Calls Try.prog 56 #[.slice A n c] w fun e w' => e = .returned (.tuple #[]) ∧ w'.ownsRow base 3 1 (.slice A n c) n (ivs (zs.mergeSort fun x y => decide (x ≤ y))) ∧ Fr (fun k => base ≤ k) w w' := by
  have hl : zs.length = n := by have := h.1; simpa using this
  rcases h.2 with ⟨hv, h0⟩ | ⟨g, cap, cur, hv, hbase, hb, h1, h2, h3, h4⟩
  · injection hv with hA _ _
    subst hA h0
    obtain rfl : zs = [] := List.eq_nil_of_length_eq_zero hl
    refine (Try.slices_Sort_int_none none c w).mono ?_
    rintro e w' ⟨rfl, rfl⟩
    exact ⟨rfl, by simpa using h, Fr.refl _ _⟩
  · injection hv with hA _ hc
    subst hA hc hl
    refine (Try.slices_Sort_int g 0 c zs w (holds_of_blockI hb (by simpa using h4)) (Array.getElem?_eq_some_iff.1 hb).1 (by omega)).mono ?_
    rintro e w' ⟨rfl, k, os, rfl⟩
    refine ⟨rfl, ownsRow_sortedI (by simp) hbase hb h1 h2 h3, ?_⟩
    exact (Fr.of_grown (grownBy_sortedI _)).mono (fun k _ e => by injection e with e; omega)

/-- slices.Compact at []int: a row of the call's own; what is handed back is read, not owned any more -/
theorem compact_int (base : Nat) (A : Option Addr) (n c : Nat) (zs : List Int) (w : World) (h : w.ownsRow base 3 1 (.slice A n c) n (ivs zs)) (hn : n ≤ 1000000) :
    Calls Try.prog 58 #[.slice A n c] w fun e w' => e = .returned (.slice A (Lib.compact zs).length c) ∧ (Lib.compact zs).length ≤ n ∧ n ≤ c ∧ c ≤ maxLen ∧
      w'.ownsRow base 3 1 (.slice A (Lib.compact zs).length c) (Lib.compact zs).length (ivs (Lib.compact zs)) ∧ Fr (fun k => base ≤ k) w w' := by
  have hl : zs.length = n := by have := h.1; simpa using this
  have hcl : (Lib.compact zs).length ≤ n := by
    unfold Lib.compact Lib.compactUpTo
    rw [List.length_map]
    exact Nat.le_trans (List.length_filter_le _ _) (by simp [hl])
  rcases h.2 with ⟨hv, h0⟩ | ⟨g, cap, cur, hv, hbase, hb, h1, h2, h3, h4⟩
  · injection hv with hA _ hc
    subst hA h0 hc
    obtain rfl : zs = [] := List.eq_nil_of_length_eq_zero hl
    refine (Try.slices_Compact_int_empty none 0 w).mono ?_
    rintro e w' ⟨rfl, rfl⟩
    exact ⟨rfl, by simp [Lib.compact, Lib.compactUpTo], Nat.le_refl _, by simp [maxLen], by simpa [Lib.compact, Lib.compactUpTo] using h, Fr.refl _ _⟩
  · injection hv with hA _ hc
    subst hA hc hl
    refine (Try.slices_Compact_int g 0 c zs w (holds_of_blockI hb (by simpa using h4)) (by omega) h1).mono ?_
    rintro e w' ⟨rfl, q, rfl⟩
    have e2 : ∀ d : Array Int, putRow (Value.int .i64) (Sort.ahead w q) g 0 d = grow (putRow (Value.int .i64) (Sort.ahead w q) g 0 d) #[] := fun d => by simp
    refine ⟨rfl, hcl, h1, h2, ?_, ?_⟩
    · rw [e2]
      have h5 := heap_sortedI (os := #[]) (n := q) (Lib.compact zs ++ List.replicate (zs.length - (Lib.compact zs).length) 0).toArray hb
      refine ⟨by simp, .inr ⟨g, c, _, rfl, hbase, h5, by omega, h2, by simp [putCells, h3], ?_⟩⟩
      have h6 := take_putCellsI cur (Lib.compact zs ++ List.replicate (zs.length - (Lib.compact zs).length) 0) (by simp; omega)
      rw [Nat.mul_one]
      have h7 := congrArg (List.take (Lib.compact zs).length) h6
      rw [List.take_take, Nat.min_eq_left (by simp)] at h7
      rw [h7, List.map_append, List.take_left' (by simp)]
    · rw [e2]
      exact (Fr.of_grown (grownBy_sortedI _)).mono (fun k _ e => by injection e with e; omega)

set_option maxRecDepth 100000 in
/-- slices.Clip at []int -/
theorem clip_int (A : Option Addr) (n c : Nat) (w : World) (hnc : n ≤ c) :
    Calls Try.prog 57 #[.slice A n c] w fun e w' => e = .returned (.slice A n n) ∧ w = w' := by
  go_enter Try.func57, Try.ntmps57
  go_wp2
  go_ret
  exact ⟨rfl, rfl⟩

/-- a row that is only read from now on, cut to its length -/
theorem Sl.clip {w : World} {k n c : Nat} {A : Option Addr} {xs : List Value} (h : Sl w k A n c xs) : Sl w k A n n xs := ⟨h.1, Nat.le_refl _, h.2.2⟩

set_option maxRecDepth 100000 in
/-- bag.Of at int -/
theorem of_int (A : Option Addr) (n c : Nat) (zs : List Int) (w : World) (h : Sl w 1 A n c (ivs zs)) (hn : n ≤ 1000000) :
    Calls Try.prog 25 #[.slice A n c] w fun e w' => ∃ A' n', e = .returned (.agg #[.slice A' n' n']) ∧ n' ≤ n ∧ Sl w' 1 A' n' n' (ivs (norm zs)) ∧ Pu w w' := by
  go_enter Try.func25, Try.ntmps25
  go_wp2_with fail
  have hW := (Pu.refl w).alloc (Obj.cells #[Value.slice none 0 0] 54)
  refine (clone_int A n c zs _ (h.pu hW) hn).mono ?_
  rintro e w1 ⟨A1, c1, rfl, ho1, h1⟩
  have H1 := hW.trans h1
  go_wp2_with fail
  refine (sort_int _ A1 n c1 zs _ ho1 hn).mono ?_
  rintro e w2 ⟨rfl, ho2, h2⟩
  go_wp2_with fail
  refine (compact_int _ A1 n c1 _ _ ho2 hn).mono ?_
  rintro e w3 ⟨rfl, hle, hnc, hcm, ho3, h3⟩
  go_wp2_with fail
  refine (clip_int A1 _ c1 _ (by omega)).mono ?_
  rintro e w4 ⟨rfl, rfl⟩
  have hb : Blk w3 w.heap.size 54 #[.slice none 0 0] := (((Blk.new w _ _).pu h1).fr h2 (by simp)).fr h3 (by simp)
  have hc : w3.cell? ⟨w.heap.size, 0, none⟩ = some (.slice none 0 0) := hb.cell 0
  have hf : w3.frozen? ⟨w.heap.size, 0, none⟩ = false := hb.frozen 0
  have hP : Pu w w3 := (H1.step h2 (by simp; omega)).step h3 (by simp; omega)
  go_wp2_with fail
  refine bodyPost_ret (v := .agg #[.slice A1 (norm zs).length (norm zs).length]) (by simp [results, Try.results25, go_sem, hc, norm]) rfl ⟨A1, _, rfl, hle, ?_, ?_⟩
  · refine (Sl.of_own ho3).clip.fr (Fr.one _ _ _ _) (fun _ b off hA => ?_)
    have := own_ge ho3 b off hA
    simp at this
    omega
  · exact hP.setCell (Nat.le_refl _) _
end Go.Proofs.Ytckfnbckoclhpaa
