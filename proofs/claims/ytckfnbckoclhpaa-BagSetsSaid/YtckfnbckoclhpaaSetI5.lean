/- Sets of int: slices.Grow, slices.Concat, With. -/
import Derived.Test.YtckfnbckoclhpaaSetI4
import Derived.WalkLawsBesides
set_option linter.unusedVariables false
namespace Go.Proofs.Ytckfnbckoclhpaa
open Go.RowKit

theorem zeroCells_size (z : Value) (n : Nat) : (Builtin.zeroCells #[z] n).size = n := by simp [Builtin.zeroCells]

set_option maxRecDepth 100000 in
theorem grow_int (x : Int) (w : World) (hx : 0 ≤ x) (hs0 : x ≤ 2000000) :
    Calls Try.prog 75 #[.slice none 0 0, .int .i64 x] w fun e w' => ∃ A' c', e = .returned (.slice A' 0 c') ∧ w'.ownsRow w.heap.size 3 1 (.slice A' 0 c') 0 [] ∧ Pu w w' := by
  obtain ⟨s, rfl⟩ := Int.eq_ofNat_of_zero_le hx
  have hs : s ≤ 2000000 := by omega
  rcases Nat.eq_zero_or_pos s with h0 | h0
  · subst h0
    go_enter Try.func75, Try.ntmps75
    go_wp2
    go_ret
    exact ⟨none, 0, rfl, World.ownsRow_nil _ _ _ _, Pu.refl _⟩
  · obtain ⟨i, hi, hz, hsz, hby⟩ := info_parts eiInt.info
    refine (Any8.slices_Grow_grow Try.growInt i (.int .i64 0) hi hz (by omega) none 0 0 s [] w (Nat.le_refl _) (by omega) (by rw [hby]; omega) (by omega) (by simp) (fun _ => rfl) (fun a h => by cases h)).mono ?_
    rintro e w' ⟨rfl, rfl⟩
    refine ⟨_, _, rfl, ?_, (Pu.refl w).drew.alloc _⟩
    have hle := grownCap_ge w (0 + s) 0 3
    have hlm := grownCap_le_maxLen w (0 + s) 0 3 (by simp [maxLen]; omega)
    refine ⟨rfl, .inr ⟨w.heap.size, _, _, rfl, Nat.le_refl _, Blk.new _ _ _, Nat.zero_le _, hlm, ?_, by simp⟩⟩
    have e1 : (Value.int .i64 0).cells = #[Value.int .i64 0] := rfl
    simp only [e1, Array.size_append, zeroCells_size, List.size_toArray, List.length_nil]
    show 0 + (0 + s - 0) + (grownCap w (0 + s) 0 3 - (0 + s)) = grownCap w (0 + s) 0 3 * 1
    omega

set_option maxHeartbeats 1000000 in
set_option maxRecDepth 100000 in
/-- Concat of two -/
theorem concat_int (A B : Option Addr) (n c m d : Nat) (zs ys : List Int) (q : Nat) (w : World) (h : Sl w 1 A n c (ivs zs)) (hy : Sl w 1 B m d (ivs ys)) (hn : n ≤ 1000000) (hm : m ≤ 1000000) (hq : Blk w q 28 #[.slice A n c, .slice B m d]) :
    Calls Try.prog 61 #[.slice (some ⟨q, 0, none⟩) 2 2] w fun e w' => ∃ A' c', e = .returned (.slice A' (n + m) c') ∧ w'.ownsRow w.heap.size 3 1 (.slice A' (n + m) c') (n + m) (ivs (zs ++ ys)) ∧ Pu w w' := by
  have q0 : w.cell? ⟨q, 0, none⟩ = some (.slice A n c) := hq.cell 0
  have q1 : w.cell? ⟨q, 1, none⟩ = some (.slice B m d) := hq.cell 1
  go_enter Try.func61, Try.ntmps61
  go_wp2_with fail
  go_loop [3, 11] (fun v i => (i = .int .i64 0 ∧ v = .int .i64 0) ∨ (i = .int .i64 1 ∧ v = .int .i64 n) ∨ (i = .int .i64 2 ∧ v = .int .i64 ((n : Int) + m))) (fun _ i => 2 - (intOf i).toNat)
  case atStart => exact .inl ⟨rfl, rfl⟩
  case round =>
    rcases hrel with ⟨rfl, rfl⟩ | ⟨rfl, rfl⟩ | ⟨rfl, rfl⟩
    · go_wp2_with fail
      go_round
      case rel => exact .inr (.inl ⟨rfl, rfl⟩)
      case measure => simp [intOf]
    · go_wp2_with fail
      go_round
      case rel => exact .inr (.inr ⟨rfl, rfl⟩)
      case measure => simp [intOf]
    · go_wp2_with fail
      refine (grow_int ((n : Int) + m) _ (by omega) (by omega)).mono ?_
      rintro e w1 ⟨A1, c1, rfl, ho1, h1⟩
      have b1 := hq.pu h1
      have g0 : w1.cell? ⟨q, 0, none⟩ = some (.slice A n c) := b1.cell 0
      have g1 : w1.cell? ⟨q, 1, none⟩ = some (.slice B m d) := b1.cell 1
      go_wp2_with fail
      clear q0 q1 g0 g1 b1
      go_loopw [6, 27] (fun v i wr => ∃ (A' : Option Addr) (c' : Nat), ((i = .int .i64 0 ∧ v = .slice A' 0 c' ∧ wr.ownsRow w.heap.size 3 1 (.slice A' 0 c') 0 []) ∨ (i = .int .i64 1 ∧ v = .slice A' n c' ∧ wr.ownsRow w.heap.size 3 1 (.slice A' n c') n (ivs zs)) ∨ (i = .int .i64 2 ∧ v = .slice A' (n + m) c' ∧ wr.ownsRow w.heap.size 3 1 (.slice A' (n + m) c') (n + m) (ivs (zs ++ ys)))) ∧ Pu w wr) (fun _ i _ => 2 - (intOf i).toNat)
      case atStart => exact ⟨A1, c1, .inl ⟨rfl, rfl, ho1⟩, h1⟩
      case round =>
        obtain ⟨A', c', hcase, hP⟩ := hrel
        have bq := hq.pu hP
        have g0 : wr.cell? ⟨q, 0, none⟩ = some (.slice A n c) := bq.cell 0
        have g1 : wr.cell? ⟨q, 1, none⟩ = some (.slice B m d) := bq.cell 1
        have hle := hP.size
        rcases hcase with ⟨rfl, rfl, ho⟩ | ⟨rfl, rfl, ho⟩ | ⟨rfl, rfl, ho⟩
        · go_wp2_with (at_builtin; refine wpList_app eiInt rfl _ _ rfl rfl rfl ho (h.pu hP) (ints_oneCell _ _) (by simp [maxLen]; omega) (by omega) hle ?_)
          intro A2 c2 w2 ho2 hg2
          have hP2 := pu_push hP ho (Nat.le_refl _) hg2
          clear g0 g1 bq
          go_wp2
          go_roundw
          case rel => exact ⟨A2, c2, .inr (.inl ⟨rfl, rfl, ho2⟩), hP2⟩
          case measure => simp [intOf]
        · go_wp2_with (at_builtin; refine wpList_app eiInt rfl _ _ rfl rfl rfl ho (hy.pu hP) (ints_oneCell _ _) (by simp [maxLen]; omega) (by omega) hle ?_)
          intro A2 c2 w2 ho2 hg2
          have hP2 := pu_push hP ho (Nat.le_refl _) hg2
          clear g0 g1 bq
          go_wp2
          go_roundw
          case rel => exact ⟨A2, c2, .inr (.inr ⟨rfl, rfl, by rw [show ivs (zs ++ ys) = ivs zs ++ ivs ys from List.map_append]; exact ho2⟩), hP2⟩
          case measure => simp [intOf]
        · go_wp2
          go_ret
          exact ⟨A', c', rfl, ho, hP⟩

set_option maxHeartbeats 1000000 in
set_option maxRecDepth 100000 in
theorem with_int (A B : Option Addr) (n c m d : Nat) (zs ys : List Int) (w : World) (h : Sl w 1 A n c (ivs zs)) (hy : Sl w 1 B m d (ivs ys)) (hn : n ≤ 400000) (hm : m ≤ 400000) :
    Calls Try.prog 31 #[.agg #[.slice A n c], .slice B m d] w fun e w' => ∃ A' n', e = .returned (.agg #[.slice A' n' n']) ∧ n' ≤ n + m ∧ Sl w' 1 A' n' n' (ivs (norm (zs ++ ys))) ∧ Pu w w' := by
  go_enter Try.func31, Try.ntmps31
  go_wp2_with fail
  refine (concat_int A B n c m d zs ys _ _ (h.pu (by repeat (first | exact Pu.refl _ | apply Pu.alloc))) (hy.pu (by repeat (first | exact Pu.refl _ | apply Pu.alloc))) (by omega) (by omega) (Blk.at_new _ _ _ (by simp))).mono ?_
  rintro e w1 ⟨A1, c1, rfl, ho1, h1⟩
  have hb1 : Blk w1 (w.heap.size + 1) 54 #[Value.slice none 0 0] := ((Blk.at_new _ _ _ (by simp)).alloc _).pu h1
  have hP : Pu w w1 := Pu.trans (by repeat (first | exact Pu.refl _ | apply Pu.alloc)) h1
  go_wp2_with fail
  refine (of_int A1 _ c1 (zs ++ ys) _ (Sl.of_own ho1) (by omega)).mono ?_
  rintro e w2 ⟨A2, n2, rfl, hn2, hs2, h2⟩
  have hb2 := hb1.pu h2
  have hP2 := hP.trans h2
  have c3 : w2.cell? ⟨w.heap.size + 1, 0, none⟩ = some (.slice none 0 0) := hb2.cell 0
  have f3 : w2.frozen? ⟨w.heap.size + 1, 0, none⟩ = false := hb2.frozen 0
  go_wp2_with fail
  refine bodyPost_ret (v := .agg #[.slice A2 n2 n2]) (by simp [results, Try.results31, go_sem, c3]) rfl ⟨A2, n2, rfl, hn2, ?_, hP2.setCell (by simp) _⟩
  exact hs2.fr (Fr.one _ _ _ _) (hs2.ne_blk (by omega) hb2 (ivs_notin _ _ _ _))
end Go.Proofs.Ytckfnbckoclhpaa
