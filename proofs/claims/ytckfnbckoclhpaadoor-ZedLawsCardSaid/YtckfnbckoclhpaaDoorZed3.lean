/- zed: sign, compare, Cmp. -/
import Derived.Test.YtckfnbckoclhpaaDoorZed2
set_option linter.unusedVariables false
namespace Go.Proofs.YtckfnbckoclhpaaDoor
open Go.RowKit

theorem sgnf_any (b : Bool) (w : World) : Calls Tryd.prog 40 #[.bool b] w fun e w' => e = .returned (.int .i64 (if b then -1 else 1)) ∧ w = w' := by
  cases b
  · go_enter Tryd.func40, Tryd.ntmps40
    go_wp2
    go_ret
    exact ⟨rfl, rfl⟩
  · go_enter Tryd.func40, Tryd.ntmps40
    go_wp2
    go_ret
    exact ⟨rfl, rfl⟩

/-- the order of two numbers -/
def cmpN (x y : Nat) : Int := if x < y then -1 else if y < x then 1 else 0
theorem cmpN_lt {x y : Nat} (h : x < y) : cmpN x y = -1 := by simp [cmpN, h]
theorem cmpN_gt {x y : Nat} (h : y < x) : cmpN x y = 1 := by
  unfold cmpN
  rw [if_neg (by omega), if_pos h]
theorem cmpN_eq (x : Nat) : cmpN x x = 0 := by
  unfold cmpN
  rw [if_neg (by omega), if_neg (by omega)]

/-- two lists with the same tail from k on, and another place there, are ordered by that place -/
theorem pval_split (b : Nat) (l : List Nat) (k : Nat) {x : Nat} (h : l[k]? = some x) : pval b l = pval b (l.take k) + b ^ k * (x + b * pval b (l.drop (k + 1))) := by
  have hk := (List.getElem?_eq_some_iff.1 h).1
  have e : l = l.take k ++ (x :: l.drop (k + 1)) := by
    have h1 := List.take_append_drop k l
    rw [List.drop_eq_getElem_cons hk] at h1
    have h2 : l[k] = x := by
      have := List.getElem?_eq_getElem hk
      rw [h] at this
      injection this with this
      exact this.symm
    rw [h2] at h1
    exact h1.symm
  have h1 : pval b l = pval b (l.take k ++ (x :: l.drop (k + 1))) := by rw [← e]
  rw [h1, pval_append]
  simp [pval, Nat.min_eq_left (Nat.le_of_lt hk)]
theorem pval_less {b : Nat} {l m : List Nat} {k x y : Nat} (hl : Below_ b l) (hx : l[k]? = some x) (hy : m[k]? = some y) (ht : l.drop (k + 1) = m.drop (k + 1)) (hxy : x < y) : pval b l < pval b m := by
  have hk := (List.getElem?_eq_some_iff.1 hx).1
  rw [pval_split b l k hx, pval_split b m k hy, ht]
  have h1 := pval_lt (hl.take k)
  rw [List.length_take, Nat.min_eq_left (Nat.le_of_lt hk)] at h1
  have h2 : b ^ k * (x + 1 + b * pval b (m.drop (k + 1))) ≤ b ^ k * (y + b * pval b (m.drop (k + 1))) := Nat.mul_le_mul_left _ (by omega)
  have h3 : b ^ k * (x + 1 + b * pval b (m.drop (k + 1))) = b ^ k * (x + b * pval b (m.drop (k + 1))) + b ^ k := by
    rw [show x + 1 + b * pval b (m.drop (k + 1)) = (x + b * pval b (m.drop (k + 1))) + 1 by omega, Nat.mul_add, Nat.mul_one]
  omega
theorem drop_at {l : List Nat} {j x : Nat} (h : l[j]? = some x) : l.drop j = x :: l.drop (j + 1) := by
  have hj := (List.getElem?_eq_some_iff.1 h).1
  rw [List.drop_eq_getElem_cons hj]
  congr 1
  have := List.getElem?_eq_getElem hj
  rw [h] at this
  injection this with this
  exact this.symm
theorem pval_shorter {b : Nat} (hb : 0 < b) {l m : List Nat} (hl : Below_ b l) (hm : Tidy m) (h : l.length < m.length) : pval b l < pval b m := by
  have h1 := pval_lt hl
  have h2 := pval_ge hb hm (fun e => by rw [e] at h; simp at h)
  have h3 : b ^ l.length ≤ b ^ (m.length - 1) := Nat.pow_le_pow_right hb (by omega)
  omega

set_option maxHeartbeats 1000000 in
set_option maxRecDepth 100000 in
theorem compare_any (A C : Option Addr) (n c m d : Nat) (l k : List Nat) (w : World) (h : Sl w 1 A n c (wds l)) (g : Sl w 1 C m d (wds k)) (hn : n ≤ 1000000) (hm : m ≤ 1000000)
    (hl : Below_ 4294967296 l) (hk : Below_ 4294967296 k) (tl : Tidy l) (tk : Tidy k) :
    Calls Tryd.prog 41 #[.slice A n c, .slice C m d] w fun e w' => e = .returned (.int .i64 (cmpN (pval 4294967296 l) (pval 4294967296 k))) ∧ Pu w w' := by
  have ll := h.wlen
  have lk := g.wlen
  have key : ∀ r, cmpN (pval 4294967296 l) (pval 4294967296 k) = r → Calls Tryd.prog 41 #[.slice A n c, .slice C m d] w fun e w' => e = .returned (.int .i64 r) ∧ Pu w w' := by
    intro r hr
    by_cases hnm : n = m
    · subst hnm
      have e0 : ((n : Int) != (n : Int)) = false := by simp
      have Hr := Lib.hid hr
      clear hr
      go_enter Tryd.func41, Tryd.ntmps41
      go_wp2_with fail
      go_loopw [5] (fun v ws => ∃ j : Nat, j ≤ n ∧ v = .int .i64 ((j : Int) - 1) ∧ l.drop j = k.drop j ∧ Pu w ws) (fun v _ => (intOf v + 1).toNat)
      case atStart => exact ⟨n, Nat.le_refl _, rfl, by rw [List.drop_eq_nil_of_le (by omega), List.drop_eq_nil_of_le (by omega)], Pu.refl _⟩
      case round =>
        obtain ⟨j, hj, rfl, hd, hP⟩ := hrel
        have HD := Lib.hid hd
        clear hd
        rcases j with _ | j
        · have er : r = 0 := by
            have := HD.out
            simp only [List.drop_zero] at this
            rw [← Hr.out, this, cmpN_eq]
          subst er
          go_wp2
          go_ret
          exact ⟨rfl, hP⟩
        · obtain ⟨x, hx⟩ : ∃ x, l[j]? = some x := ⟨_, List.getElem?_eq_getElem (by omega)⟩
          obtain ⟨y, hy⟩ : ∃ y, k[j]? = some y := ⟨_, List.getElem?_eq_getElem (by omega)⟩
          obtain ⟨b1, o1, e1, hb1, c1⟩ := (h.pu hP).wat hx
          obtain ⟨b2, o2, e2, hb2, c2⟩ := (g.pu hP).wat hy
          subst e1 e2
          have Hx := Lib.hid hx
          have Hy := Lib.hid hy
          clear hx hy
          have ej : ((j + 1 : Nat) : Int) - 1 = (j : Int) := by omega
          rw [ej]
          have hw1 : IntKind.i64.wrap ((j : Int) - 1) = (j : Int) - 1 := IntWalk.i64_in _ (by omega)
          have hjn : j < n := by omega
          by_cases exy : x = y
          · subst exy
            have ex : ((x : Int) != (x : Int)) = false := by simp
            go_wp2_with fail
            go_quiet (fail)
            go_wp2
            go_roundw
            case rel => exact ⟨j, by omega, by go_num, by rw [drop_at Hx.out, drop_at Hy.out, HD.out], hP.drewN _⟩
            case measure => simp [intOf]
          · have ex : ((x : Int) != (y : Int)) = true := by simp; omega
            rcases Nat.lt_or_gt_of_ne exy with h1 | h1
            · have ex2 : decide ((x : Int) < (y : Int)) = true := by simp; omega
              obtain rfl : r = -1 := by rw [← Hr.out]; exact cmpN_lt (pval_less hl Hx.out Hy.out HD.out h1)
              go_wp2_with fail
              go_quiet (fail)
              go_wp2_with fail
              go_region_with (go_at_call 40; refine (sgnf_any _ _).mono ?_; rintro e w1 ⟨rfl, rfl⟩)
              all_goals
                go_wp2
                go_ret
                exact ⟨rfl, by repeat (first | exact hP | apply Pu.drewN | apply Pu.drew)⟩
            · have ex2 : decide ((x : Int) < (y : Int)) = false := by simp; omega
              obtain rfl : r = 1 := by rw [← Hr.out]; exact cmpN_gt (pval_less hk Hy.out Hx.out HD.out.symm h1)
              go_wp2_with fail
              go_quiet (fail)
              go_wp2_with fail
              go_region_with (go_at_call 40; refine (sgnf_any _ _).mono ?_; rintro e w1 ⟨rfl, rfl⟩)
              all_goals
                go_wp2
                go_ret
                exact ⟨rfl, by repeat (first | exact hP | apply Pu.drewN | apply Pu.drew)⟩
    · have hnb : ((n : Int) != (m : Int)) = true := by simp; omega
      rcases Nat.lt_or_ge n m with h1 | h1
      · obtain rfl : r = -1 := by rw [← hr]; exact cmpN_lt (pval_shorter (by omega) hl tk (by omega))
        have e1 : decide ((n : Int) < (m : Int)) = true := by simp; omega
        go_enter Tryd.func41, Tryd.ntmps41
        go_wp2_with fail
        refine (sgnf_any _ _).mono ?_
        rintro e w1 ⟨rfl, rfl⟩
        go_wp2
        go_ret
        exact ⟨rfl, Pu.refl _⟩
      · obtain rfl : r = 1 := by rw [← hr]; exact cmpN_gt (pval_shorter (by omega) hk tl (by omega))
        have e1 : decide ((n : Int) < (m : Int)) = false := by simp; omega
        go_enter Tryd.func41, Tryd.ntmps41
        go_wp2_with fail
        refine (sgnf_any _ _).mono ?_
        rintro e w1 ⟨rfl, rfl⟩
        go_wp2
        go_ret
        exact ⟨rfl, Pu.refl _⟩
  exact key _ rfl
end Go.Proofs.YtckfnbckoclhpaaDoor
