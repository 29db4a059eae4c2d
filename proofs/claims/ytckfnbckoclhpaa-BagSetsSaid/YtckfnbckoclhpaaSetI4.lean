/- Sets of int: Both, Without, Within. -/
import Derived.Test.YtckfnbckoclhpaaSetI3
import Derived.Deep.RegionWith
set_option linter.unusedVariables false
namespace Go.Proofs.Ytckfnbckoclhpaa
open Go.RowKit

set_option maxRecDepth 100000 in
theorem both_int (A B : Option Addr) (n c m d : Nat) (zs ys : List Int) (w : World) (h : Sl w 1 A n c (ivs zs)) (hy : Sl w 1 B m d (ivs ys)) (hn : n ≤ 1000000) (hm : m ≤ 1000000) (hs : ys.Pairwise (· < ·)) :
    Calls Try.prog 34 #[.agg #[.slice A n c], .agg #[.slice B m d]] w fun e w' => ∃ A' n' c', e = .returned (.agg #[.slice A' n' c']) ∧ n' ≤ n ∧ Sl w' 1 A' n' c' (ivs (zs.filter fun x => decide (x ∈ ys))) ∧ Pu w w' := by
  go_enter Try.func34, Try.ntmps34
  go_wp2_with fail
  refine (kept_has A B n c m d zs ys _ (h.pu (by repeat (first | exact Pu.refl _ | apply Pu.alloc | apply Pu.drew))) (hy.pu (by repeat (first | exact Pu.refl _ | apply Pu.alloc | apply Pu.drew))) hn hm hs).mono ?_
  rintro e w1 ⟨A1, n1, c1, rfl, hn1, hs1, h1⟩
  have hb1 : Blk w1 (w.heap.size + 1 + 1) 54 #[Value.slice none 0 0] := (Blk.at_new _ _ _ (by simp)).pu h1
  have c0 : w1.cell? ⟨w.heap.size + 1 + 1, 0, none⟩ = some (.slice none 0 0) := hb1.cell 0
  have f0 : w1.frozen? ⟨w.heap.size + 1 + 1, 0, none⟩ = false := hb1.frozen 0
  have hP : Pu w w1 := Pu.trans (by repeat (first | exact Pu.refl _ | apply Pu.alloc | apply Pu.drew)) h1
  go_wp2_with fail
  refine bodyPost_ret (v := .agg #[.slice A1 n1 c1]) (by simp [results, Try.results34, go_sem, c0]) rfl ⟨A1, n1, c1, rfl, hn1, ?_, hP.setCell (by simp; omega) _⟩
  exact hs1.fr (Fr.one _ _ _ _) (hs1.ne_blk (by omega) hb1 (ivs_notin _ _ _ _))
set_option maxRecDepth 100000 in
theorem without_int (A B : Option Addr) (n c m d : Nat) (zs ys : List Int) (w : World) (h : Sl w 1 A n c (ivs zs)) (hy : Sl w 1 B m d (ivs ys)) (hn : n ≤ 1000000) (hm : m ≤ 1000000) :
    Calls Try.prog 32 #[.agg #[.slice A n c], .slice B m d] w fun e w' => ∃ A' n' c', e = .returned (.agg #[.slice A' n' c']) ∧ n' ≤ n ∧ Sl w' 1 A' n' c' (ivs (zs.filter fun x => !decide (x ∈ norm ys))) ∧ Pu w w' := by
  go_enter Try.func32, Try.ntmps32
  go_wp2_with fail
  refine (of_int B m d ys _ (hy.pu (by repeat (first | exact Pu.refl _ | apply Pu.alloc | apply Pu.drew))) hm).mono ?_
  rintro e w1 ⟨B1, m1, rfl, hm1, hs1, h1⟩
  have hb1 : Blk w1 w.heap.size 54 #[Value.slice A n c] := ((Blk.new w _ _).alloc _).pu h1
  have hb2 : Blk w1 (w.heap.size + 1) 54 #[Value.slice none 0 0] := (Blk.at_new _ _ _ (by simp)).pu h1
  have hP : Pu w w1 := Pu.trans (by repeat (first | exact Pu.refl _ | apply Pu.alloc | apply Pu.drew)) h1
  have c0 : w1.cell? ⟨w.heap.size, 0, none⟩ = some (.slice A n c) := hb1.cell 0
  have hsz := hb2.lt
  have hsz0 := hb1.lt
  go_wp2_with fail
  have hP2 := hP.alloc (Obj.cells #[Value.slice B1 m1 m1] 54)
  have hal : Pu w1 (w1.alloc (Obj.cells #[Value.slice B1 m1 m1] 54)) := (Pu.refl w1).alloc _
  refine (kept_not A B1 n c m1 m1 zs (norm ys) _ _ (h.pu hP2) (hs1.pu hal) hn (by omega) (norm_rising ys) (Blk.new _ _ _)).mono ?_
  rintro e w2 ⟨A2, n2, c2, rfl, hn2, hs2, h2⟩
  have hb3 := (hb2.pu hal).pu h2
  have c3 : w2.cell? ⟨w.heap.size + 1, 0, none⟩ = some (.slice none 0 0) := hb3.cell 0
  have f3 : w2.frozen? ⟨w.heap.size + 1, 0, none⟩ = false := hb3.frozen 0
  have hP3 := hP2.trans h2
  go_wp2_with fail
  refine bodyPost_ret (v := .agg #[.slice A2 n2 c2]) (by simp [results, Try.results32, go_sem, c3]) rfl ⟨A2, n2, c2, rfl, hn2, ?_, hP3.setCell (by simp) _⟩
  exact hs2.fr (Fr.one _ _ _ _) (hs2.ne_blk (by omega) hb3 (ivs_notin _ _ _ _))

theorem filter_len (zs : List Int) (p : Int → Bool) : ((zs.filter p).length = zs.length) ↔ ∀ x ∈ zs, p x = true := by
  rw [List.length_filter_eq_length_iff]

set_option maxHeartbeats 1000000 in
set_option maxRecDepth 100000 in
theorem within_int (A B : Option Addr) (n c m d : Nat) (zs ys : List Int) (w : World) (h : Sl w 1 A n c (ivs zs)) (hy : Sl w 1 B m d (ivs ys)) (hn : n ≤ 1000000) (hm : m ≤ 1000000) (hs : ys.Pairwise (· < ·)) :
    Calls Try.prog 35 #[.agg #[.slice A n c], .agg #[.slice B m d]] w fun e w' => e = .returned (.bool ((zs.filter fun x => decide (x ∈ ys)).length == zs.length)) ∧ Pu w w' := by
  have hl : zs.length = n := by have := h.1; simpa using this
  go_enter Try.func35, Try.ntmps35
  go_wp2_with fail
  go_region_with (first
    | (go_at_call 34; refine (both_int A B n c m d zs ys _ (h.pu (by repeat (first | exact Pu.refl _ | apply Pu.alloc | apply Pu.drew))) (hy.pu (by repeat (first | exact Pu.refl _ | apply Pu.alloc | apply Pu.drew))) hn hm hs).mono ?_; rintro e w1 ⟨A1, n1, c1, rfl, hn1, hs1, h1⟩; have hP1 : Pu w w1 := Pu.trans (by repeat (first | exact Pu.refl _ | apply Pu.alloc | apply Pu.drew)) h1; have cb : w1.cell? ⟨w.heap.size, 0, none⟩ = some (.slice A n c) := Blk.cell (Blk.pu (g := w.heap.size) (t := 54) (cs := #[Value.slice A n c]) (by repeat (first | apply Blk.drew | exact Blk.at_new _ _ _ rfl | apply Blk.alloc)) h1) 0)
    | (go_at_call 28; refine (len_int _ _ _ _ (by omega)).mono ?_; rintro e w2 ⟨rfl, h2⟩; have hP1 := Pu.trans hP1 h2; have cb := Pu.cellv h2 cb))
  all_goals
    have e1 : (zs.filter fun x => decide (x ∈ ys)).length = n1 := by have := hs1.1; simpa using this
    have e2 : ((n1 : Int) == (n : Int)) = ((zs.filter fun x => decide (x ∈ ys)).length == zs.length) := by
      rw [e1, hl, Bool.eq_iff_iff]
      simp
      omega
    have E2 := Lib.hid e2
    clear e1 e2 hl
    go_wp2
    go_ret
    rw [← E2.out]
    exact ⟨rfl, hP1⟩
end Go.Proofs.Ytckfnbckoclhpaa
