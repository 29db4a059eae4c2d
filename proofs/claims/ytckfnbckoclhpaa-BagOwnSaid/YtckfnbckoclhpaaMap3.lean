/- Maps of int to int: Pairs, Copy, Keys. -/
import Derived.Test.YtckfnbckoclhpaaMap2
import Derived.Test.YtckfnbckoclhpaaCls2
import Derived.Lib.SliceRun
set_option linter.unusedVariables false
namespace Go.Proofs.Ytckfnbckoclhpaa
open Go.RowKit

theorem own_none (w : World) (e : TypeId) (k : Nat) (cs : Array Value) (h : cs.size = 0) {base : Nat} (hb : base ≤ w.heap.size) : (w.alloc (.cells cs e)).ownsRow base e k (.slice (some ⟨w.heap.size, 0, none⟩) 0 0) 0 [] := by
  refine ⟨by simp, .inr ⟨w.heap.size, 0, cs, rfl, hb, heap_alloc_new w _, Nat.le_refl _, Nat.zero_le _, by omega, ?_⟩⟩
  simp

set_option maxRecDepth 100000 in
theorem clone_pairs (A : Option Addr) (n c : Nat) (l : List (Int × Int)) (w : World) (h : Sl w 2 A n c (prs l)) (hn : n ≤ 1000000) :
    Calls Try.prog 67 #[.slice A n c] w fun e w' => ∃ A' c', e = .returned (.slice A' n c') ∧ w'.ownsRow w.heap.size 75 2 (.slice A' n c') n (prs l) ∧ Pu w w' := by
  have hl := h.prs_len
  have q73 : ∀ (w : World) (a : Option Addr) (n c n' c' : Nat), (binOp .eql 73 (.slice a n c) (.slice none n' c')).run Try.prog w = .ok (.bool a.isNone) w := fun w a n c n' c' => Lib.run_eql_slice_nil w _ _ a n c n' c' Try.underlying73
  rcases A with _ | a
  · have h0 : n = 0 := by
      rcases Nat.eq_zero_or_pos n with h0 | h0
      · exact h0
      · obtain ⟨b, off, e, _⟩ := h.2.2 h0
        cases e
    subst h0
    obtain rfl : l = [] := List.eq_nil_of_length_eq_zero hl
    go_enter Try.func67, Try.ntmps67
    go_wp2
    go_ret
    exact ⟨none, 0, rfl, World.ownsRow_nil _ _ _ _, Pu.refl _⟩
  · go_enter Try.func67, Try.ntmps67
    go_wp2_with (at_builtin; refine wpList_app eiPair rfl (.tmp 5) (.tmp 6) rfl rfl rfl (own_none w _ 2 _ (by rfl) (Nat.le_refl _)) (h.pu ((Pu.refl _).alloc _)) (prs_one _) (by simp [maxLen]; omega) (by omega) (by simp) ?_)
    intro A1 c1 w2 hown hg
    have hP := pu_push ((Pu.refl w).alloc _) (own_none w 75 2 #[] rfl (Nat.le_refl _)) (Nat.le_refl _) hg
    go_wp2
    go_ret
    exact ⟨A1, c1, rfl, hown, hP⟩

theorem pairs_any (base b : Nat) (r : Option Nat) (l : List (Int × Int)) (w : World) (h : MapR w base b r l) :
    Calls Try.prog 43 #[.pointer (some ⟨b, 0, none⟩)] w fun e w' => ∃ A n c, e = .returned (.slice A n c) ∧ w'.ownsRow w.heap.size 75 2 (.slice A n c) n (prs l) ∧ Pu w w' := by
  obtain ⟨A, n, c, k1, k2, k3, k4, k5, k6⟩ := h
  have c0 : w.cell? ⟨b, 0, none⟩ = some (.slice A n c) := k1.cell 0
  go_enter Try.func43, Try.ntmps43
  go_wp2_with fail
  refine (clone_pairs A n c l _ (Sl.of_own k2) (by omega)).mono ?_
  rintro e w1 ⟨A1, c1, rfl, ho, h1⟩
  go_wp2
  go_ret
  exact ⟨A1, n, c1, rfl, ho, h1⟩

theorem copy_any (base b : Nat) (r : Option Nat) (l : List (Int × Int)) (w : World) (h : MapR w base b r l) :
    Calls Try.prog 42 #[.pointer (some ⟨b, 0, none⟩)] w fun e w' => ∃ b' r', e = .returned (.pointer (some ⟨b', 0, none⟩)) ∧ MapR w' w.heap.size b' r' l ∧ Pu w w' := by
  have hl : l.length ≤ 1000 := by
    obtain ⟨A, n, c, k1, k2, k3, k4, k5, k6⟩ := h
    have := (Sl.of_own k2).prs_len
    omega
  have hr := h.rise
  go_enter Try.func42, Try.ntmps42
  go_wp2_with fail
  refine (pairs_any base b r l _ h).mono ?_
  rintro e w1 ⟨A, n, c, rfl, ho, h1⟩
  have hn : l.length = n := (Sl.of_own ho).prs_len
  go_wp2
  go_ret
  exact ⟨w1.heap.size, _, rfl, ⟨A, n, c, Blk.new _ _ _, ho.alloc _, rfl, h1.size, by omega, hr⟩, h1.alloc _⟩

/-- the keys -/
abbrev keys (l : List (Int × Int)) : List Int := l.map (·.1)
set_option maxHeartbeats 1000000 in
set_option maxRecDepth 100000 in
theorem keys_any (base b : Nat) (r : Option Nat) (l : List (Int × Int)) (w : World) (h : MapR w base b r l) :
    Calls Try.prog 44 #[.pointer (some ⟨b, 0, none⟩)] w fun e w' => ∃ A n c, e = .returned (.slice A n c) ∧ w'.ownsRow w.heap.size 3 1 (.slice A n c) n (ivs (keys l)) ∧ Pu w w' := by
  obtain ⟨A, n, c, k1, k2, k3, k4, k5, k6⟩ := h
  have hs := Sl.of_own k2
  have hl := hs.prs_len
  have c0 : w.cell? ⟨b, 0, none⟩ = some (.slice A n c) := k1.cell 0
  clear k2 k3
  go_enter Try.func44, Try.ntmps44
  go_wp2_with fail
  go_loopw [3, 11] (fun o i wr => ∃ (j : Nat) (A' : Option Addr) (c' : Nat) (out : List Int), j ≤ n ∧ o = .slice A' j c' ∧ i = .int .i64 j ∧ out = keys (l.take j) ∧ wr.ownsRow w.heap.size 3 1 (.slice A' j c') j (ivs out) ∧ Pu w wr) (fun _ i _ => n - (intOf i).toNat)
  case atStart => exact ⟨0, none, 0, [], Nat.zero_le _, rfl, rfl, by simp, World.ownsRow_nil _ _ _ _, Pu.refl _⟩
  case round =>
    obtain ⟨j, A', c', out, hj, rfl, rfl, ho, hown, hPu⟩ := hrel
    have HO := Lib.hid ho
    clear ho
    have hsz := hPu.size
    by_cases hlt : j < n
    · obtain ⟨p, hp⟩ : ∃ p, l[j]? = some p := ⟨_, List.getElem?_eq_getElem (by omega)⟩
      obtain ⟨bb, off, rfl, hbw, hc1, hc2⟩ := prs_at (hs.pu hPu) hp
      have Hp := Lib.hid hp
      clear hp
      obtain ⟨x, y⟩ := p
      simp only at hc1 hc2
      have hP1 : Pu w (wr.alloc (.cells #[.int .i64 x, .int .i64 y] 75)) := hPu.alloc _
      have hown0 : (wr.alloc (.cells #[.int .i64 x, .int .i64 y] 75)).ownsRow w.heap.size 3 1 (.slice A' j c') j (ivs out) := hown.alloc _
      have hsz1 := hP1.size
      clear hown
      go_wp2_with (at_builtin; refine wpList_pushAt eiInt rfl _ _ rfl #[.int .i64 x] rfl (by simp [Value.oneCell']) rfl rfl (by simp) hown0 (by simp [maxLen]; omega) (by omega) hsz1 ?_)
      intro A1 c1 w2 hown1 hg1
      have hP2 := pu_push hP1 hown0 (Nat.le_refl _) hg1
      clear hown0 hg1 hPu hP1 hc1 hc2
      go_wp2
      go_roundw
      case rel => exact ⟨j + 1, A1, c1, out ++ [x], by omega, rfl, by go_num, by rw [HO.out, keys, keys, List.take_add_one, Hp.out]; simp, by simpa using hown1, hP2⟩
      case measure => simp [intOf]; omega
    · obtain rfl : j = n := by omega
      go_wp2
      go_ret
      have e1 : out = keys l := by rw [HO.out, List.take_of_length_le (by omega)]
      exact ⟨A', j, c', rfl, by rw [← e1]; exact hown, hPu⟩
end Go.Proofs.Ytckfnbckoclhpaa
