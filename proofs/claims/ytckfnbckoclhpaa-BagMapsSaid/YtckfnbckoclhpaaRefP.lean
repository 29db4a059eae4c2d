/- The document's lists of pairs: Get, Set. -/
import Derived.Test.YtckfnbckoclhpaaProg
import Derived.Test.YtckfnbckoclhpaaPrs
set_option linter.unusedVariables false
namespace Go.Proofs.Ytckfnbckoclhpaa
open Go.RowKit

theorem take_ne {l : List (Int × Int)} {k : Int} {j : Nat} {p : Int × Int} (h : ∀ q ∈ l.take j, q.1 ≠ k) (hj : l[j]? = some p) (hp : p.1 ≠ k) : ∀ q ∈ l.take (j + 1), q.1 ≠ k := by
  intro q hq
  rw [List.take_add_one, hj] at hq
  rcases List.mem_append.1 hq with hq | hq
  · exact h q hq
  · simp at hq
    rw [hq]
    exact hp

/-- what Get tells -/
def getR (l : List (Int × Int)) (k : Int) : Int := if there l k then (place l k : Int) else -1

set_option maxRecDepth 100000 in
theorem refGet_any (A : Option Addr) (n c : Nat) (l : List (Int × Int)) (k : Int) (w : World) (h : Sl w 2 A n c (prs l)) (hn : n ≤ 1000000) (hr : Rise l) :
    Calls Try.prog 37 #[.slice A n c, .int .i64 k] w fun e w' => e = .returned (.int .i64 (getR l k)) ∧ w = w' := by
  have hl := h.prs_len
  go_enter Try.func37, Try.ntmps37
  go_wp2_with fail
  go_loop [5] (fun i => ∃ j : Nat, j ≤ n ∧ i = .int .i64 j ∧ ∀ q ∈ l.take j, q.1 ≠ k) (fun i => n - (intOf i).toNat)
  case atStart => exact ⟨0, Nat.zero_le _, rfl, by simp⟩
  case round =>
    obtain ⟨j, hj, rfl, hno⟩ := hrel
    have Hno := Lib.hid hno
    clear hno
    by_cases hlt : j < n
    · obtain ⟨p, hp⟩ : ∃ p, l[j]? = some p := ⟨_, List.getElem?_eq_getElem (by omega)⟩
      obtain ⟨b, off, rfl, _, hc1, hc2⟩ := prs_at h hp
      have Hp := Lib.hid hp
      clear hp
      by_cases e : p.1 = k
      · have E := Lib.hid e
        have hb : (p.1 == k) = true := by simp [e]
        clear e
        go_wp2
        go_ret
        obtain ⟨h1, h2⟩ := there_at hr Hp.out E.out
        exact ⟨by rw [getR, h1, h2]; rfl, rfl⟩
      · have hb : (p.1 == k) = false := by simp [e]
        have E := Lib.hid e
        clear e
        go_wp2
        go_round
        case rel => exact ⟨j + 1, by omega, by go_num, take_ne Hno.out Hp.out E.out⟩
        case measure => simp [intOf]; omega
    · have hall : l.take j = l := List.take_of_length_le (by omega)
      have ht : there l k = false := by
        cases hb : there l k with
        | false => rfl
        | true =>
          obtain ⟨q, hq, e⟩ := List.any_eq_true.1 hb
          exact absurd (by simpa using e) (Hno.out q (by rw [hall]; exact hq))
      have Ht := Lib.hid ht
      clear hall ht
      go_wp2
      go_ret
      exact ⟨by rw [getR, Ht.out]; rfl, rfl⟩

theorem eiRefP : ElemI Try.prog 65 72 (.agg #[.int .i64 0, .int .i64 0]) 2 16 := ⟨Try.underlying65, by kernel_rfl, rfl, by decide⟩
theorem own_pair {w : World} {base n c : Nat} {e : TypeId} {A : Option Addr} {l : List (Int × Int)} {k v : Int} (h : w.ownsRow base e 2 (.slice A (n + 1) c) (n + 1) (prs l ++ #[Value.int .i64 k, .int .i64 v].toList)) : w.ownsRow base e 2 (.slice A (n + 1) c) (n + 1) (prs (l ++ [(k, v)])) := by
  rw [prs_append]
  exact h
theorem own_len {w : World} {base n c : Nat} {e : TypeId} {A : Option Addr} {l : List (Int × Int)} (h : w.ownsRow base e 2 (.slice A n c) n (prs l)) : l.length = n := by
  have := h.1
  rw [prs_len] at this
  omega

set_option maxHeartbeats 1600000 in
set_option maxRecDepth 100000 in
theorem refSet_any (A : Option Addr) (n c : Nat) (l : List (Int × Int)) (k v : Int) (w : World) (h : Sl w 2 A n c (prs l)) (hn : n ≤ 1000000) (hr : Rise l) :
    Calls Try.prog 39 #[.slice A n c, .int .i64 k, .int .i64 v] w fun e w' => ∃ A' n' c', e = .returned (.tuple #[.slice A' n' c', .bool (!there l k)]) ∧ w'.ownsRow w.heap.size 72 2 (.slice A' n' c') n' (prs (putM l k v)) ∧ Pu w w' := by
  have hl := h.prs_len
  have PE := Lib.hid (fun h => pre_end (l := l) (k := k) (v := v) h)
  have PL := Lib.hid (fun h => pre_last (l := l) (k := k) (v := v) hr h)
  have PS := Lib.hid (fun j p h => place_spec k l hr j p h)
  have TA := Lib.hid (fun j p (h : l[j]? = some p) e => there_at hr (k := k) h e)
  have TI := Lib.hid (there_iff hr k)
  have hpl := place_le l k
  generalize hP : place l k = P at *
  generalize hth : there l k = th at *
  generalize hM : putM l k v = M at *
  clear hP hth hM
  go_enter Try.func39, Try.ntmps39
  go_wp2_with fail
  go_loopw [8, 9, 10, 11] (fun o d fr i wr => ∃ (j n' : Nat) (A' : Option Addr) (c' : Nat) (out : List (Int × Int)) (D F : Bool), j ≤ n ∧ n' ≤ j + D.toNat ∧ o = .slice A' n' c' ∧ d = .bool D ∧ fr = .bool F ∧ i = .int .i64 j ∧ D = decide (P < j) ∧ F = !(th && D) ∧ out = setPre l P (if th then 1 else 0) k v j ∧ wr.ownsRow w.heap.size 72 2 (.slice A' n' c') n' (prs out) ∧ Pu w wr) (fun _ _ _ i _ => n - (intOf i).toNat)
  case atStart => exact ⟨0, 0, none, 0, [], false, true, Nat.zero_le _, Nat.zero_le _, rfl, rfl, rfl, rfl, by simp, by simp, by simp [setPre], World.ownsRow_nil _ _ _ _, Pu.refl _⟩
  case round =>
    obtain ⟨j, n', A', c', out, D, F, hj, hnj, rfl, rfl, rfl, rfl, hD, hF, ho, hown, hPu⟩ := hrel
    have HO := Lib.hid ho
    have HF := Lib.hid hF
    clear ho hF
    have hsz := hPu.size
    by_cases hlt : j < n
    · obtain ⟨p, hp⟩ : ∃ p, l[j]? = some p := ⟨_, List.getElem?_eq_getElem (by omega)⟩
      obtain ⟨b, off, rfl, hbw, hc1, hc2⟩ := prs_at (h.pu hPu) hp
      have ps := PS.out j p hp
      have Hp := Lib.hid hp
      have ta := Lib.hid (fun e => TA.out j p hp e)
      clear hp
      obtain ⟨x, y⟩ := p
      simp only at hc1 hc2 ps ta
      rcases Nat.lt_trichotomy j P with hjP | hjP | hjP
      · have hxk := ps.1 hjP
        have e1 : (x == k) = false := by simp; omega
        have e2 : decide (k < x) = false := by simp; omega
        obtain rfl : D = false := by rw [hD]; simp; omega
        simp only [Bool.toNat_false, Nat.add_zero] at hnj
        have HD := Lib.hid hD
        clear ps hD
        go_wp2_with (at_builtin; refine wpList_push eiRefP rfl _ _ rfl #[.int .i64 x, .int .i64 y] rfl (by simp [Value.oneCell']) rfl rfl hown (by simp [maxLen]; omega) (by omega) hsz ?_)
        intro A1 c1 w2 hown1 hg1
        have hP2 := pu_push hPu hown (Nat.le_refl _) hg1
        have hown2 := own_pair hown1
        clear hown hown1 hg1 hPu hc1 hc2
        go_wp2
        go_roundw
        case rel => exact ⟨j + 1, n' + 1, A1, c1, _, false, F, by omega, by simp; omega, rfl, rfl, rfl, by go_num, by simp; omega, HF.out, by rw [HO.out, pre_below Hp.out hjP], hown2, hP2⟩
        case measure => simp [intOf]; omega
      · subst hjP
        obtain rfl : D = false := by rw [hD]; simp
        simp only [Bool.toNat_false, Nat.add_zero] at hnj
        have hxk : k ≤ x := by omega
        obtain ⟨g, hg⟩ : ∃ g, g = th := ⟨_, rfl⟩
        have HD := Lib.hid hD
        clear ps hD
        rcases th with _ | _
        · have hne : x ≠ k := fun e => by have := (ta.out e).1; cases this
          have e1 : (x == k) = false := by simp [hne]
          have e2 : decide (k < x) = true := by simp; omega
          clear hne
          go_wp2_with (at_builtin; refine wpList_push eiRefP rfl _ _ rfl #[.int .i64 k, .int .i64 v] rfl (by simp [Value.oneCell']) rfl rfl hown (by simp [maxLen]; omega) (by omega) hsz ?_)
          intro A1 c1 w2 hown1 hg1
          have hP2 := pu_push hPu hown (Nat.le_refl _) hg1
          have hown2 := own_pair hown1
          have hsz2 := hP2.size
          obtain ⟨hc1, hc2⟩ : w2.cell? ⟨b, off + j * 2, none⟩ = some (.int .i64 x) ∧ w2.cell? ⟨b, off + j * 2 + 1, none⟩ = some (.int .i64 y) := by
            obtain ⟨b', off', e, _, h1, h2⟩ := prs_at (h.pu hP2) Hp.out
            injection e with e
            injection e with e1 e2
            subst e1 e2
            exact ⟨h1, h2⟩
          clear hown hown1 hg1 hPu
          go_wp2_with (at_builtin; refine wpList_push eiRefP rfl _ _ rfl #[.int .i64 x, .int .i64 y] rfl (by simp [Value.oneCell']) rfl rfl hown2 (by simp [maxLen]; omega) (by omega) hsz2 ?_)
          intro A3 c3 w4 hown3 hg3
          have hP4 := pu_push hP2 hown2 (Nat.le_refl _) hg3
          have hown4 : w4.ownsRow w.heap.size 72 2 (.slice A3 (n' + 2) c3) (n' + 2) (prs (out ++ [(k, v)] ++ [(x, y)])) := by simpa [prs] using hown3
          clear hown2 hown3 hg3 hP2 hc1 hc2
          go_wp2
          go_roundw
          case rel => exact ⟨j + 1, n' + 2, A3, c3, _, true, F, by omega, by simp; omega, rfl, rfl, rfl, by go_num, by simp, by rw [HF.out]; simp, by rw [HO.out]; exact (pre_new Hp.out).symm, hown4, hP4⟩
          case measure => simp [intOf]; omega
        · have e : x = k := by
            obtain ⟨u, hu⟩ := TI.out.1 rfl
            rw [Hp.out] at hu
            injection hu with hu
            injection hu
          have e1 : (x == k) = true := by simp [e]
          clear e
          go_wp2_with (at_builtin; refine wpList_push eiRefP rfl _ _ rfl #[.int .i64 k, .int .i64 v] rfl (by simp [Value.oneCell']) rfl rfl hown (by simp [maxLen]; omega) (by omega) hsz ?_)
          intro A1 c1 w2 hown1 hg1
          have hP2 := pu_push hPu hown (Nat.le_refl _) hg1
          have hown2 := own_pair hown1
          clear hown hown1 hg1 hPu hc1 hc2
          go_wp2
          go_roundw
          case rel => exact ⟨j + 1, n' + 1, A1, c1, _, true, false, by omega, by simp; omega, rfl, rfl, rfl, by go_num, by simp, by simp, by rw [HO.out]; exact pre_same.symm, hown2, hP2⟩
          case measure => simp [intOf]; omega
      · have hxk : k ≤ x := by omega
        have hne : x ≠ k := fun e => by have := (ta.out e).2; omega
        have e1 : (x == k) = false := by simp [hne]
        obtain rfl : D = true := by rw [hD]; simp; omega
        simp only [Bool.toNat_true] at hnj
        have HD := Lib.hid hD
        clear ps hD hne
        go_wp2_with (at_builtin; refine wpList_push eiRefP rfl _ _ rfl #[.int .i64 x, .int .i64 y] rfl (by simp [Value.oneCell']) rfl rfl hown (by simp [maxLen]; omega) (by omega) hsz ?_)
        intro A1 c1 w2 hown1 hg1
        have hP2 := pu_push hPu hown (Nat.le_refl _) hg1
        have hown2 := own_pair hown1
        clear hown hown1 hg1 hPu hc1 hc2
        go_wp2
        go_roundw
        case rel => exact ⟨j + 1, n' + 1, A1, c1, _, true, F, by omega, by simp; omega, rfl, rfl, rfl, by go_num, by simp; omega, HF.out, by rw [HO.out, pre_above Hp.out hjP (by split <;> omega)], hown2, hP2⟩
        case measure => simp [intOf]; omega
    · obtain rfl : j = n := by omega
      by_cases hPl : P < l.length
      · obtain rfl : D = true := by rw [hD]; simp; omega
        have pe := Lib.hid (PE.out hPl)
        clear hD
        go_wp2
        go_ret2
        exact ⟨A', n', c', by rw [HF.out]; simp, by rw [← pe.out, hl, ← HO.out]; exact hown, hPu⟩
      · obtain rfl : D = false := by rw [hD]; simp; omega
        simp only [Bool.toNat_false, Nat.add_zero] at hnj
        have pl := Lib.hid (PL.out hPl)
        have ht : th = false := by
          rcases th with _ | _
          · rfl
          · obtain ⟨u, hu⟩ := TI.out.1 rfl
            have := (List.getElem?_eq_some_iff.1 hu).1
            omega
        subst ht
        clear hD
        go_wp2_with (at_builtin; refine wpList_push eiRefP rfl _ _ rfl #[.int .i64 k, .int .i64 v] rfl (by simp [Value.oneCell']) rfl rfl hown (by simp [maxLen]; omega) (by omega) hsz ?_)
        intro A1 c1 w2 hown1 hg1
        have hP2 := pu_push hPu hown (Nat.le_refl _) hg1
        have hown2 := own_pair hown1
        clear hown hown1 hg1 hPu
        go_wp2
        go_ret2
        exact ⟨A1, n' + 1, c1, by rw [HF.out]; simp, by rw [← pl.out 0, hl]; rw [HO.out] at hown2; exact hown2, hP2⟩
end Go.Proofs.Ytckfnbckoclhpaa
