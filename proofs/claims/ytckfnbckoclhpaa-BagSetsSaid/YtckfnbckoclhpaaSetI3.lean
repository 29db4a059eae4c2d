/- Sets of int: Has, kept, Both, Without. -/
import Derived.Test.YtckfnbckoclhpaaSetI2
import Derived.Test.YtckfnbckoclhpaaCls2
set_option linter.unusedVariables false
namespace Go.Proofs.Ytckfnbckoclhpaa
open Go.RowKit

theorem contains_eq (zs : List Int) (x : Int) : zs.contains x = decide (x ∈ zs) := by
  rw [Bool.eq_iff_iff]
  simp

theorem search_int (A : Option Addr) (n c : Nat) (zs : List Int) (x : Int) (w : World) (h : Sl w 1 A n c (ivs zs)) (hn : n ≤ 1000000) (hs : zs.Pairwise (· < ·)) :
    Calls Try.prog 60 #[.slice A n c, .int .i64 x] w fun e w' => ∃ i : Int, e = .returned (.tuple #[.int .i64 i, .bool (decide (x ∈ zs))]) ∧ Pu w w' := by
  have hl : zs.length = n := by have := h.1; simpa using this
  rcases Nat.eq_zero_or_pos n with h0 | h0
  · subst h0
    obtain rfl : zs = [] := List.eq_nil_of_length_eq_zero hl
    refine (Try.slices_BinarySearch_int_empty A c x w).mono ?_
    rintro e w' ⟨rfl, rfl⟩
    exact ⟨0, by simp, Pu.refl _⟩
  · obtain ⟨b, off, rfl, hlt, hc⟩ := h.2.2 h0
    refine (Try.slices_BinarySearch_int b off n c zs x w (by omega) (by omega) (fun j hj => ?_) ?_).mono ?_
    · have hu : (ivs zs)[j]? = some (.int .i64 zs[j]) := by rw [List.getElem?_map, List.getElem?_eq_getElem hj]; rfl
      rw [hc j _ hu, List.getD_eq_getElem?_getD, List.getElem?_eq_getElem hj]
      rfl
    · rw [List.take_of_length_le (by omega)]
      exact List.Pairwise.imp_of_mem (fun _ _ h => Int.le_of_lt h) hs
    · rintro e w' ⟨rfl, q, rfl⟩
      rw [List.take_of_length_le (by omega)]
      exact ⟨_, by rw [contains_eq], (Pu.refl w).drewN q⟩

set_option maxRecDepth 100000 in
theorem has_int (A : Option Addr) (n c : Nat) (zs : List Int) (x : Int) (w : World) (h : Sl w 1 A n c (ivs zs)) (hn : n ≤ 1000000) (hs : zs.Pairwise (· < ·)) :
    Calls Try.prog 29 #[.agg #[.slice A n c], .int .i64 x] w fun e w' => e = .returned (.bool (decide (x ∈ zs))) ∧ Pu w w' := by
  have hW := (Pu.refl w).alloc (Obj.cells #[Value.slice A n c] 54)
  have hse := search_int A n c zs x _ (h.pu hW) hn hs
  have Hse := Lib.hid hse
  clear hse
  generalize hv : decide (x ∈ zs) = v at *
  have Hv := Lib.hid hv
  clear hv
  go_enter Try.func29, Try.ntmps29
  go_wp2_with fail
  refine (Calls.mono Hse.out) ?_
  rintro e w1 ⟨i, rfl, h1⟩
  go_wp2
  go_ret
  exact ⟨rfl, hW.trans h1⟩

theorem filter_take_step (p : Int → Bool) (zs : List Int) (k : Nat) (hk : k < zs.length) : (zs.take (k + 1)).filter p = (zs.take k).filter p ++ (if p zs[k] then [zs[k]] else []) := by
  rw [List.take_succ_eq_append_getElem hk, List.filter_append]
  congr 1
  by_cases h : p zs[k] <;> simp [h]

set_option maxHeartbeats 1000000 in
set_option maxRecDepth 100000 in
/-- kept, with another set's Has -/
theorem kept_has (A B : Option Addr) (n c m d : Nat) (zs ys : List Int) (w : World) (h : Sl w 1 A n c (ivs zs)) (hy : Sl w 1 B m d (ivs ys)) (hn : n ≤ 1000000) (hm : m ≤ 1000000) (hs : ys.Pairwise (· < ·)) :
    Calls Try.prog 62 #[.agg #[.slice A n c], .func (.func 29) #[.agg #[.slice B m d]] #[]] w fun e w' => ∃ A' n' c', e = .returned (.agg #[.slice A' n' c']) ∧ n' ≤ n ∧ Sl w' 1 A' n' c' (ivs (zs.filter fun x => decide (x ∈ ys))) ∧ Pu w w' := by
  have hl : zs.length = n := by have := h.1; simpa using this
  go_enter Try.func62, Try.ntmps62
  go_wp2_with fail
  go_loopw [5, 11] (fun v i wr => ∃ (k n' : Nat) (A' : Option Addr) (c' : Nat) (l : List Int), k ≤ n ∧ n' ≤ k ∧ l = (zs.take k).filter (fun x => decide (x ∈ ys)) ∧ i = .int .i64 k ∧ v = .slice A' n' c' ∧ wr.ownsRow (w.heap.size + 2) 3 1 (.slice A' n' c') n' (ivs l) ∧
      Blk wr (w.heap.size + 1) 54 #[.slice none 0 0] ∧ Pu w wr) (fun _ i _ => n - (intOf i).toNat)
  case atStart => exact ⟨0, 0, none, 0, [], Nat.zero_le _, Nat.le_refl _, rfl, rfl, rfl, World.ownsRow_nil _ _ _ _, Blk.at_new _ _ _ (by simp), ((Pu.refl w).alloc _).alloc _⟩
  case round =>
    obtain ⟨k, n', A', c', l, hk, hnk, hle, rfl, rfl, hown, hb, hP⟩ := hrel
    have Hl := Lib.hid hle
    clear hle
    by_cases hlt : k < n
    · obtain ⟨g, off, u, rfl, _, hu, hc⟩ := (h.pu hP).at_ hlt
      have hz : zs[k]? = some zs[k] := List.getElem?_eq_getElem (by omega)
      obtain rfl : .int .i64 zs[k] = u := by
        rw [List.getElem?_map, hz] at hu
        injection hu
      clear hu hz
      have hstep := Lib.hid (filter_take_step (fun x => decide (x ∈ ys)) zs k (by omega))
      have hsz := hP.size
      have hsz2 := hb.lt
      generalize zs[k] = z at *
      go_wp2_with fail
      refine (has_int B m d ys z _ (hy.pu hP) hm hs).mono ?_
      rintro e w1 ⟨rfl, h1⟩
      have hP1 := hP.trans h1
      have hb1 := hb.pu h1
      have ho1 := own_pu hown h1
      have hs1 := h1.size
      clear hc hown hb hP
      by_cases hin : z ∈ ys
      · simp only [hin, decide_true] at *
        go_wp2_with (at_builtin; refine wpList_push eiInt rfl _ _ rfl #[.int .i64 z] rfl (by simp [Value.oneCell']) rfl rfl ho1 (by simp [maxLen]; omega) (by omega) (by omega) ?_)
        intro A1 c1 w2 hown1 hg1
        have hP2 := pu_push hP1 ho1 (by omega) hg1
        have hb2 := blk_push hb1 ho1 (by omega) hg1
        clear ho1 hg1 hP1 hb1
        go_wp2
        go_roundw
        case rel => exact ⟨k + 1, n' + 1, A1, c1, l ++ [z], by omega, by omega, by rw [hstep.out, Hl.out]; simp, by go_num, rfl, by simpa using hown1, hb2, hP2⟩
        case measure => simp [intOf]; omega
      · simp only [hin, decide_false] at *
        go_wp2
        go_roundw
        case rel => exact ⟨k + 1, n', A', c', l, by omega, by omega, by rw [hstep.out, Hl.out]; simp, by go_num, rfl, ho1, hb1, hP1⟩
        case measure => simp [intOf]; omega
    · have cb : wr.cell? ⟨w.heap.size + 1, 0, none⟩ = some (.slice none 0 0) := hb.cell 0
      have fb : wr.frozen? ⟨w.heap.size + 1, 0, none⟩ = false := hb.frozen 0
      go_wp2
      refine bodyPost_ret (v := .agg #[.slice A' n' c']) (by simp [results, Try.results62, go_sem, cb]) rfl ⟨A', n', c', rfl, by omega, ?_, hP.setCell (by simp) _⟩
      have e1 : l = zs.filter (fun x => decide (x ∈ ys)) := by rw [Hl.out, List.take_of_length_le (by omega)]
      rw [← e1]
      exact (Sl.of_own hown).fr (Fr.one _ _ _ _) (fun _ b off hA => by have := own_ge hown b off hA; omega)

set_option maxRecDepth 100000 in
theorem not_int (A : Option Addr) (n c : Nat) (zs : List Int) (x : Int) (t : Nat) (w : World) (h : Sl w 1 A n c (ivs zs)) (hn : n ≤ 1000000) (hs : zs.Pairwise (· < ·)) (ht : Blk w t 54 #[.slice A n c]) :
    Calls Try.prog 63 #[.int .i64 x, .pointer (some ⟨t, 0, none⟩)] w fun e w' => e = .returned (.bool (!decide (x ∈ zs))) ∧ Pu w w' := by
  have ct : w.cell? ⟨t, 0, none⟩ = some (.slice A n c) := ht.cell 0
  have hse := has_int A n c zs x _ h hn hs
  have Hse := Lib.hid hse
  clear hse
  generalize hv : decide (x ∈ zs) = v at *
  have Hv := Lib.hid hv
  clear hv
  go_enter Try.func63, Try.ntmps63
  go_wp2_with fail
  refine (Calls.mono Hse.out) ?_
  rintro e w1 ⟨rfl, h1⟩
  go_wp2
  go_ret
  exact ⟨rfl, h1⟩

set_option maxHeartbeats 1000000 in
set_option maxRecDepth 100000 in
/-- kept, with what another set has not -/
theorem kept_not (A B : Option Addr) (n c m d : Nat) (zs ys : List Int) (t : Nat) (w : World) (h : Sl w 1 A n c (ivs zs)) (hy : Sl w 1 B m d (ivs ys)) (hn : n ≤ 1000000) (hm : m ≤ 1000000) (hs : ys.Pairwise (· < ·)) (ht : Blk w t 54 #[.slice B m d]) :
    Calls Try.prog 62 #[.agg #[.slice A n c], .func (.func 63) #[] #[.pointer (some ⟨t, 0, none⟩)]] w fun e w' => ∃ A' n' c', e = .returned (.agg #[.slice A' n' c']) ∧ n' ≤ n ∧ Sl w' 1 A' n' c' (ivs (zs.filter fun x => !decide (x ∈ ys))) ∧ Pu w w' := by
  have hl : zs.length = n := by have := h.1; simpa using this
  go_enter Try.func62, Try.ntmps62
  go_wp2_with fail
  go_loopw [5, 11] (fun v i wr => ∃ (k n' : Nat) (A' : Option Addr) (c' : Nat) (l : List Int), k ≤ n ∧ n' ≤ k ∧ l = (zs.take k).filter (fun x => !decide (x ∈ ys)) ∧ i = .int .i64 k ∧ v = .slice A' n' c' ∧ wr.ownsRow (w.heap.size + 2) 3 1 (.slice A' n' c') n' (ivs l) ∧
      Blk wr (w.heap.size + 1) 54 #[.slice none 0 0] ∧ Pu w wr) (fun _ i _ => n - (intOf i).toNat)
  case atStart => exact ⟨0, 0, none, 0, [], Nat.zero_le _, Nat.le_refl _, rfl, rfl, rfl, World.ownsRow_nil _ _ _ _, Blk.at_new _ _ _ (by simp), ((Pu.refl w).alloc _).alloc _⟩
  case round =>
    obtain ⟨k, n', A', c', l, hk, hnk, hle, rfl, rfl, hown, hb, hP⟩ := hrel
    have Hl := Lib.hid hle
    clear hle
    by_cases hlt : k < n
    · obtain ⟨g, off, u, rfl, _, hu, hc⟩ := (h.pu hP).at_ hlt
      have hz : zs[k]? = some zs[k] := List.getElem?_eq_getElem (by omega)
      obtain rfl : .int .i64 zs[k] = u := by
        rw [List.getElem?_map, hz] at hu
        injection hu
      clear hu hz
      have hstep := Lib.hid (filter_take_step (fun x => !decide (x ∈ ys)) zs k (by omega))
      have hsz := hP.size
      have hsz2 := hb.lt
      generalize zs[k] = z at *
      go_wp2_with fail
      refine (not_int B m d ys z t _ (hy.pu hP) hm hs (ht.pu hP)).mono ?_
      rintro e w1 ⟨rfl, h1⟩
      have hP1 := hP.trans h1
      have hb1 := hb.pu h1
      have ho1 := own_pu hown h1
      have hs1 := h1.size
      clear hc hown hb hP
      by_cases hin : z ∈ ys
      · simp only [hin, decide_true, Bool.not_true] at *
        go_wp2
        go_roundw
        case rel => exact ⟨k + 1, n', A', c', l, by omega, by omega, by rw [hstep.out, Hl.out]; simp, by go_num, rfl, ho1, hb1, hP1⟩
        case measure => simp [intOf]; omega
      · simp only [hin, decide_false, Bool.not_false] at *
        go_wp2_with (at_builtin; refine wpList_push eiInt rfl _ _ rfl #[.int .i64 z] rfl (by simp [Value.oneCell']) rfl rfl ho1 (by simp [maxLen]; omega) (by omega) (by omega) ?_)
        intro A1 c1 w2 hown1 hg1
        have hP2 := pu_push hP1 ho1 (by omega) hg1
        have hb2 := blk_push hb1 ho1 (by omega) hg1
        clear ho1 hg1 hP1 hb1
        go_wp2
        go_roundw
        case rel => exact ⟨k + 1, n' + 1, A1, c1, l ++ [z], by omega, by omega, by rw [hstep.out, Hl.out]; simp, by go_num, rfl, by simpa using hown1, hb2, hP2⟩
        case measure => simp [intOf]; omega
    · have cb : wr.cell? ⟨w.heap.size + 1, 0, none⟩ = some (.slice none 0 0) := hb.cell 0
      have fb : wr.frozen? ⟨w.heap.size + 1, 0, none⟩ = false := hb.frozen 0
      go_wp2
      refine bodyPost_ret (v := .agg #[.slice A' n' c']) (by simp [results, Try.results62, go_sem, cb]) rfl ⟨A', n', c', rfl, by omega, ?_, hP.setCell (by simp) _⟩
      have e1 : l = zs.filter (fun x => !decide (x ∈ ys)) := by rw [Hl.out, List.take_of_length_le (by omega)]
      rw [← e1]
      exact (Sl.of_own hown).fr (Fr.one _ _ _ _) (fun _ b off hA => by have := own_ge hown b off hA; omega)

end Go.Proofs.Ytckfnbckoclhpaa
