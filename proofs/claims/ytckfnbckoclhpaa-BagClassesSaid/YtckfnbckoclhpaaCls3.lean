/- The document's Join over lists of numbers. -/
import Derived.Test.YtckfnbckoclhpaaCls2
set_option linter.unusedVariables false
namespace Go.Proofs.Ytckfnbckoclhpaa
open Go.RowKit

theorem Rd.congr {cs : Array Value} {n : Nat} {f g : Nat → Nat} (h : Rd cs n f) (e : ∀ i, i < n → f i = g i) : Rd cs n g := fun i hi => by rw [h i hi, e i hi]

/-- the first k numbers have been joined -/
def part (p q : Nat) (f : Nat → Nat) (k : Nat) : Nat → Nat := fun i => if i < k then jRt p q (f i) else f i
theorem part_step {p q : Nat} {f : Nat → Nat} {k v : Nat} (h : v = jRt p q (f k)) (i : Nat) : upd (part p q f k) k v i = part p q f (k + 1) i := by
  unfold upd part
  by_cases e : i = k
  · subst e
    rw [if_pos rfl, if_pos (by omega)]
    exact h
  · rw [if_neg e]
    by_cases h1 : i < k
    · rw [if_pos h1, if_pos (by omega)]
    · rw [if_neg h1, if_neg (by omega)]
theorem part_skip {p q : Nat} {f : Nat → Nat} {k : Nat} (h : jRt p q (f k) = f k) (i : Nat) : part p q f k i = part p q f (k + 1) i := by
  unfold part
  by_cases e : i = k
  · subst e
    rw [if_neg (by omega), if_pos (by omega), h]
  · by_cases h1 : i < k
    · rw [if_pos h1, if_pos (by omega)]
    · rw [if_neg h1, if_neg (by omega)]

set_option maxRecDepth 100000 in
theorem refJoin_any (u n c : Nat) (cs : Array Value) (f : Nat → Nat) (a b : Nat) (w : World) (hn : n ≤ 65536) (ha : a < n) (hb : b < n) (hfn : ∀ i, i < n → f i < n)
    (hu : Blk w u 3 cs) (hr : Rd cs n f) :
    Calls Try.prog 12 #[.slice (some ⟨u, 0, none⟩) n c, .int .i64 a, .int .i64 b] w fun e w' => e = .returned (.bool (jNe (f a) (f b))) ∧ ∃ cs', Blk w' u 3 cs' ∧ Rd cs' n (fun i => jRt (f a) (f b) (f i)) ∧ Fr (fun k => k = u) w w' := by
  have c1 : w.cell? ⟨u, a, none⟩ = some (.int .i64 (f a)) := (hu.cell _).trans (hr _ ha)
  have c2 : w.cell? ⟨u, b, none⟩ = some (.int .i64 (f b)) := (hu.cell _).trans (hr _ hb)
  have hfa := hfn a ha
  have hfb := hfn b hb
  by_cases h0 : f a = f b
  · have e1 : ((f a : Int) == (f b : Int)) = true := by simp [h0]
    have H := Lib.hid h0
    clear h0
    go_enter Try.func12, Try.ntmps12
    go_wp2
    go_ret
    rw [jNe_eq H.out]
    exact ⟨rfl, cs, hu, hr.congr (fun i _ => by rw [jRt_eq H.out]), Fr.refl _ _⟩
  · have e1 : ((f a : Int) == (f b : Int)) = false := by simp; omega
    by_cases hlt : f a < f b
    · have hx : ¬ ((f b : Int) < f a) := by omega
      have hd : decide ((f b : Int) < f a) = false := by simp; omega
      go_enter Try.func12, Try.ntmps12
      go_wp2
      clear c1 c2
      have H0 := Lib.hid h0
      clear h0 e1 hx hd
      go_loopw [9] (fun v wr => ∃ (k : Nat) (ds : Array Value), k ≤ n ∧ v = .int .i64 k ∧ Blk wr u 3 ds ∧ Rd ds n (part (f a) (f b) f k) ∧ Fr (fun k => k = u) w wr) (fun v _ => n - (intOf v).toNat)
      case atStart => exact ⟨0, cs, Nat.zero_le _, rfl, hu, hr.congr (fun i _ => by simp [part]), Fr.refl _ _⟩
      case round =>
        obtain ⟨k, ds, hk, rfl, hu', hr', hfr⟩ := hrel
        by_cases hkn : k < n
        · have ck : wr.cell? ⟨u, k, none⟩ = some (.int .i64 (f k)) := by
            have := (hu'.cell k).trans (hr' k hkn)
            simpa [part] using this
          have fk : wr.frozen? ⟨u, k, none⟩ = false := hu'.frozen k
          by_cases he : f k = f b
          · have e2 : ((f k : Int) == (f b : Int)) = true := by simp [he]
            have He := Lib.hid he
            clear he
            go_wp2
            go_roundw
            case rel => exact ⟨k + 1, _, by omega, by go_num, hu'.set_ k _, (hr'.set hkn).congr (fun i _ => part_step (by rw [He.out, jRt_lt hlt, if_pos rfl]) i), hfr.setCell (.inl rfl) _⟩
            case measure => simp [intOf]; omega
          · have e2 : ((f k : Int) == (f b : Int)) = false := by simp; omega
            have He := Lib.hid he
            clear he
            go_wp2
            go_roundw
            case rel => exact ⟨k + 1, _, by omega, by go_num, hu', hr'.congr (fun i _ => part_skip (by rw [jRt_lt hlt, if_neg He.out]) i), hfr⟩
            case measure => simp [intOf]; omega
        · go_wp2
          go_ret
          rw [jNe_ne H0.out]
          exact ⟨rfl, ds, hu', hr'.congr (fun i hi => by unfold part; rw [if_pos (by omega)]), hfr⟩
    · have hx : ((f b : Int) < f a) := by omega
      have hgt : f b < f a := by omega
      have hd : decide ((f b : Int) < f a) = true := by simp; omega
      go_enter Try.func12, Try.ntmps12
      go_wp2
      clear c1 c2
      have H0 := Lib.hid h0
      clear h0 e1 hx hd
      go_loopw [9] (fun v wr => ∃ (k : Nat) (ds : Array Value), k ≤ n ∧ v = .int .i64 k ∧ Blk wr u 3 ds ∧ Rd ds n (part (f a) (f b) f k) ∧ Fr (fun k => k = u) w wr) (fun v _ => n - (intOf v).toNat)
      case atStart => exact ⟨0, cs, Nat.zero_le _, rfl, hu, hr.congr (fun i _ => by simp [part]), Fr.refl _ _⟩
      case round =>
        obtain ⟨k, ds, hk, rfl, hu', hr', hfr⟩ := hrel
        by_cases hkn : k < n
        · have ck : wr.cell? ⟨u, k, none⟩ = some (.int .i64 (f k)) := by
            have := (hu'.cell k).trans (hr' k hkn)
            simpa [part] using this
          have fk : wr.frozen? ⟨u, k, none⟩ = false := hu'.frozen k
          by_cases he : f k = f a
          · have e2 : ((f k : Int) == (f a : Int)) = true := by simp [he]
            have He := Lib.hid he
            clear he
            go_wp2
            go_roundw
            case rel => exact ⟨k + 1, _, by omega, by go_num, hu'.set_ k _, (hr'.set hkn).congr (fun i _ => part_step (by rw [He.out, jRt_gt hgt, if_pos rfl]) i), hfr.setCell (.inl rfl) _⟩
            case measure => simp [intOf]; omega
          · have e2 : ((f k : Int) == (f a : Int)) = false := by simp; omega
            have He := Lib.hid he
            clear he
            go_wp2
            go_roundw
            case rel => exact ⟨k + 1, _, by omega, by go_num, hu', hr'.congr (fun i _ => part_skip (by rw [jRt_gt hgt, if_neg He.out]) i), hfr⟩
            case measure => simp [intOf]; omega
        · go_wp2
          go_ret
          rw [jNe_ne H0.out]
          exact ⟨rfl, ds, hu', hr'.congr (fun i hi => by unfold part; rw [if_pos (by omega)]), hfr⟩
end Go.Proofs.Ytckfnbckoclhpaa
