/- Maps of int to int: find, Get, Len, Pairs, Copy, Keys, NewMap. -/
import Derived.Test.YtckfnbckoclhpaaMap1
set_option linter.unusedVariables false
namespace Go.Proofs.Ytckfnbckoclhpaa
open Go.RowKit

/-- a map at b, whose row is r's block -/
def MapR (w : World) (base b : Nat) (r : Option Nat) (l : List (Int × Int)) : Prop :=
  ∃ A n c, Blk w b 95 #[.slice A n c] ∧ w.ownsRow base 75 2 (.slice A n c) n (prs l) ∧ (Value.slice A n c).ownBlock = r ∧ base ≤ b ∧ n ≤ 1000 ∧ Rise l
section
variable {w w' : World} {base b : Nat} {r : Option Nat} {l : List (Int × Int)}
theorem MapR.fr {S : Nat → Prop} (h : MapR w base b r l) (hf : Fr S w w') (h1 : ¬ S b) (h2 : ∀ g, r = some g → ¬ S g) : MapR w' base b r l := by
  obtain ⟨A, n, c, k1, k2, k3, k4⟩ := h
  exact ⟨A, n, c, k1.fr hf h1, own_fr k2 hf (fun g hg => h2 g (by rw [← k3, hg])), k3, k4⟩
theorem MapR.pu (h : MapR w base b r l) (hf : Pu w w') : MapR w' base b r l := h.fr hf (fun x => x) (fun _ _ x => x)
theorem MapR.base_ {base' : Nat} (h : MapR w base b r l) (hb : base' ≤ base) : MapR w base' b r l := by
  obtain ⟨A, n, c, k1, k2, k3, k4, k5⟩ := h
  exact ⟨A, n, c, k1, own_base k2 hb, k3, Nat.le_trans hb k4, k5⟩
theorem MapR.rise (h : MapR w base b r l) : Rise l := by
  obtain ⟨A, n, c, k1, k2, k3, k4, k5, k6⟩ := h
  exact k6
theorem MapR.lt (h : MapR w base b r l) : base ≤ b ∧ b < w.heap.size := by
  obtain ⟨A, n, c, k1, k2, k3, k4, k5, k6⟩ := h
  exact ⟨k4, k1.lt⟩
theorem MapR.row (h : MapR w base b r l) : ∀ g, r = some g → base ≤ g ∧ g < w.heap.size ∧ g ≠ b := by
  obtain ⟨A, n, c, k1, k2, k3, k4, k5, k6⟩ := h
  intro g hg
  have h1 := k2.lt g (by rw [k3, hg])
  refine ⟨h1.1, h1.2, ?_⟩
  rintro rfl
  rcases k2.2 with ⟨hv, _⟩ | ⟨g', cap, cur, hv, _, hgg, _⟩
  · rw [hv] at k3
    rw [← k3] at hg
    cases hg
  · have e : g' = g := by
      rw [hv] at k3
      rw [← k3] at hg
      injection hg
    subst e
    exact (Blk.ne_ (t := 75) (t' := 95) hgg k1 (by decide)) rfl
end
/-- a list that a call has made anew is at a block of another type than a map's -/
theorem own_ne {w : World} {base n c base2 b : Nat} {e : TypeId} {k : Nat} {A : Option Addr} {xs : List Value} {r : Option Nat} {l : List (Int × Int)} (h : w.ownsRow base e k (.slice A n c) n xs) (hm : MapR w base2 b r l)
    (h1 : e ≠ 95) (h2 : e ≠ 75) : ∀ g, (Value.slice A n c).ownBlock = some g → g ≠ b ∧ r ≠ some g := by
  intro g hg
  rcases h.2 with ⟨hv, _⟩ | ⟨g', cap, cur, hv, _, hgg, _⟩
  · rw [hv] at hg
    cases hg
  · rw [hv] at hg
    injection hg with hg
    simp only at hg
    subst hg
    obtain ⟨A', n', c', k1, k2, k3, _⟩ := hm
    refine ⟨Blk.ne_ (t := e) (t' := 95) hgg k1 h1, fun hr => ?_⟩
    rcases k2.2 with ⟨hv2, _⟩ | ⟨g2, cap2, cur2, hv2, _, hgg2, _⟩
    · rw [hv2] at k3
      rw [← k3] at hr
      cases hr
    · rw [hv2] at k3
      rw [← k3] at hr
      injection hr with hr
      simp only at hr
      exact Blk.ne_ (t := e) (t' := 75) hgg hgg2 h2 hr.symm

theorem find_any (base b : Nat) (r : Option Nat) (l : List (Int × Int)) (k : Int) (w : World) (h : MapR w base b r l) :
    Calls Try.prog 64 #[.pointer (some ⟨b, 0, none⟩), .int .i64 k] w fun e w' => e = .returned (.tuple #[.int .i64 (place l k : Int), .bool (there l k)]) ∧ Pu w w' := by
  obtain ⟨A, n, c, k1, k2, k3, k4, k5, k6⟩ := h
  have c0 : w.cell? ⟨b, 0, none⟩ = some (.slice A n c) := k1.cell 0
  go_enter Try.func64, Try.ntmps64
  go_wp2_with fail
  refine (search_any A n c l k _ (Sl.of_own k2) (by omega) k6).mono ?_
  rintro e w1 ⟨rfl, h1⟩
  go_wp2
  go_ret2
  exact ⟨rfl, h1⟩

/-- what Get tells of a map -/
def getV (l : List (Int × Int)) (k : Int) : Int := if there l k then (l[place l k]?.getD (0, 0)).2 else 0

theorem mget_any (base b : Nat) (r : Option Nat) (l : List (Int × Int)) (k : Int) (w : World) (h : MapR w base b r l) :
    Calls Try.prog 41 #[.pointer (some ⟨b, 0, none⟩), .int .i64 k] w fun e w' => e = .returned (.tuple #[.int .i64 (getV l k), .bool (there l k)]) ∧ Pu w w' := by
  have hf := find_any base b r l k w h
  obtain ⟨A, n, c, k1, k2, k3, k4, k5, k6⟩ := h
  have TI := Lib.hid (there_iff k6 k)
  generalize hv : getV l k = v at *
  have Hv := Lib.hid hv
  generalize hth : there l k = th at *
  generalize hP : place l k = P at *
  have Hth := Lib.hid hth
  have HP := Lib.hid hP
  clear hv hth hP
  go_enter Try.func41, Try.ntmps41
  rcases th with _ | _
  · go_wp2_with fail
    refine hf.mono ?_
    rintro e w1 ⟨rfl, h1⟩
    go_wp2
    go_ret2
    refine ⟨?_, h1⟩
    rw [← Hv.out, getV, Hth.out]
    rfl
  · obtain ⟨u, hu⟩ := TI.out.1 rfl
    have hPl := (List.getElem?_eq_some_iff.1 hu).1
    have hl : l.length = n := (Sl.of_own k2).prs_len
    have ev : v = u := by
      rw [← Hv.out, getV, Hth.out, HP.out, hu]
      rfl
    subst ev
    go_wp2_with fail
    refine hf.mono ?_
    rintro e w1 ⟨rfl, h1⟩
    have c0 : w1.cell? ⟨b, 0, none⟩ = some (.slice A n c) := (k1.pu h1).cell 0
    obtain ⟨bb, off, rfl, hbw, hc1, hc2⟩ := prs_at (Sl.of_own (own_pu k2 h1)) hu
    simp only at hc2
    clear hu
    go_wp2
    go_ret2
    exact ⟨rfl, h1⟩

theorem mlen_any (base b : Nat) (r : Option Nat) (l : List (Int × Int)) (w : World) (h : MapR w base b r l) :
    Calls Try.prog 45 #[.pointer (some ⟨b, 0, none⟩)] w fun e w' => e = .returned (.int .i64 l.length) ∧ w = w' := by
  obtain ⟨A, n, c, k1, k2, k3, k4, k5, k6⟩ := h
  have hl : l.length = n := (Sl.of_own k2).prs_len
  have c0 : w.cell? ⟨b, 0, none⟩ = some (.slice A n c) := k1.cell 0
  rw [hl]
  go_enter Try.func45, Try.ntmps45
  go_wp2
  go_ret
  exact ⟨rfl, rfl⟩

theorem newmap_any (w : World) : Calls Try.prog 36 #[] w fun e w' => ∃ b, e = .returned (.pointer (some ⟨b, 0, none⟩)) ∧ MapR w' w.heap.size b none [] ∧ w.heap.size ≤ b ∧ Pu w w' := by
  go_enter Try.func36, Try.ntmps36
  go_wp2
  go_ret
  exact ⟨w.heap.size, rfl, ⟨none, 0, 0, Blk.new _ _ _, World.ownsRow_nil _ _ _ _, rfl, Nat.le_refl _, by omega, List.Pairwise.nil⟩, Nat.le_refl _, (Pu.refl w).alloc _⟩
end Go.Proofs.Ytckfnbckoclhpaa
