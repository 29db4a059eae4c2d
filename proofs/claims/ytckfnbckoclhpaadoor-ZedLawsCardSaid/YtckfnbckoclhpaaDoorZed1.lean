/- zed: words in memory; trim, made, Neg, Abs, Sign. -/
import Derived.Test.YtckfnbckoclhpaaDoorProg
import Derived.Test.YtckfnbckoclhpaaDoorBase
import Derived.Test.YtckfnbckoclhpaaDoorZMath
import Derived.Deep.QuietTactic
import Derived.Deep.RegionLaw
set_option linter.unusedVariables false
namespace Go.Proofs.YtckfnbckoclhpaaDoor
open Go.RowKit

/-- the cells of words -/
abbrev wds (l : List Nat) : List Value := l.map fun x : Nat => Value.int .u32 (x : Int)
theorem Sl.wlen {w : World} {A : Option Addr} {n c : Nat} {l : List Nat} (h : Sl w 1 A n c (wds l)) : l.length = n := by have := h.1; simpa using this
theorem Sl.wat {w : World} {A : Option Addr} {n c : Nat} {l : List Nat} (h : Sl w 1 A n c (wds l)) {j x : Nat} (hj : l[j]? = some x) : ∃ b off, A = some ⟨b, off, none⟩ ∧ b < w.heap.size ∧ w.cell? ⟨b, off + j, none⟩ = some (.int .u32 (x : Int)) := by
  have hl := h.wlen
  have := (List.getElem?_eq_some_iff.1 hj).1
  obtain ⟨b, off, u, e, hb, hu, hc⟩ := h.at_ (j := j) (by omega)
  refine ⟨b, off, e, hb, ?_⟩
  rw [List.getElem?_map, hj] at hu
  injection hu with hu
  rw [hc, ← hu]
theorem Sl.pre {w : World} {A : Option Addr} {n c : Nat} {xs : List Value} (h : Sl w 1 A n c xs) {k : Nat} (hk : k ≤ n) : Sl w 1 A k c (xs.take k) := by
  have h1 := h.1
  refine ⟨by simp; omega, Nat.le_trans hk h.2.1, fun h0 => ?_⟩
  obtain ⟨b, off, e, hb, hc⟩ := h.2.2 (by omega)
  refine ⟨b, off, e, hb, fun j u hu => hc j u ?_⟩
  rw [List.getElem?_take] at hu
  split at hu
  · exact hu
  · cases hu
theorem wds_take (l : List Nat) (k : Nat) : wds (l.take k) = (wds l).take k := by simp [List.map_take]

theorem tidied_take_succ {l : List Nat} {k x : Nat} (h : l[k]? = some x) : tidied (l.take (k + 1)) = if x = 0 then tidied (l.take k) else l.take (k + 1) := by
  have e0 : l.take (k + 1) = l.take k ++ [x] := by rw [List.take_add_one, h]; rfl
  rw [e0]
  split
  · rename_i e
    rw [e, tidied_snoc0]
  · rename_i e
    rw [tidied_snoc _ e]

set_option maxRecDepth 100000 in
theorem trim_any (A : Option Addr) (n c : Nat) (l : List Nat) (w : World) (h : Sl w 1 A n c (wds l)) (hn : n ≤ 1000000) (hc : c ≤ maxLen) :
    Calls Tryd.prog 45 #[.slice A n c] w fun e w' => e = .returned (.slice A (tidied l).length c) ∧ w = w' := by
  have hl := h.wlen
  have hnc := h.2.1
  go_enter Tryd.func45, Tryd.ntmps45
  go_wp2_with fail
  go_loop [3] (fun i => ∃ j : Nat, j ≤ n ∧ i = .int .i64 j ∧ tidied l = tidied (l.take j)) (fun i => (intOf i).toNat)
  case atStart => exact ⟨n, Nat.le_refl _, rfl, by rw [List.take_of_length_le (by omega)]⟩
  case round =>
    obtain ⟨j, hj, rfl, ht⟩ := hrel
    have HT := Lib.hid ht
    clear ht
    rcases j with _ | k
    · have hc63 : c ≤ 9223372036854775807 := hc
      go_wp2
      all_goals
        go_ret
        exact ⟨by rw [HT.out]; rfl, rfl⟩
    · obtain ⟨x, hx⟩ : ∃ x, l[k]? = some x := ⟨_, List.getElem?_eq_getElem (by omega)⟩
      obtain ⟨b, off, rfl, hb, hcell⟩ := h.wat hx
      have Hx := Lib.hid hx
      clear hx
      have hw1 : IntKind.i64.wrap ((k : Int) + 1) = (k : Int) + 1 := IntWalk.i64_in _ (by omega)
      have hc63 : c ≤ 9223372036854775807 := hc
      by_cases e : x = 0
      · subst e
        go_wp2
        go_round
        case rel => exact ⟨k, by omega, by go_num, by rw [HT.out, tidied_take_succ Hx.out, if_pos rfl]⟩
        case measure => simp [intOf]
      · have hb0 : ((x : Int) == 0) = false := by simp; omega
        have E := Lib.hid e
        clear e
        go_wp2
        go_ret
        have e1 : tidied l = l.take (k + 1) := by rw [HT.out, tidied_take_succ Hx.out, if_neg E.out]
        exact ⟨by rw [e1, List.length_take, Nat.min_eq_left (by omega)]; rfl, rfl⟩

/-- a sign and a size -/
def sgn (g : Bool) (v : Nat) : Int := if g then -(v : Int) else (v : Int)
theorem sgn_zero (g : Bool) : sgn g 0 = 0 := by cases g <;> rfl
theorem sgn_abs (g : Bool) (v : Nat) : (sgn g v).natAbs = v := by cases g <;> simp [sgn]
/-- v is the number z -/
def ZR (w : World) (v : Value) (z : Int) : Prop :=
  ∃ neg A n c l, v = .agg #[.bool neg, .slice A n c] ∧ Sl w 1 A n c (wds l) ∧ Below_ 4294967296 l ∧ Tidy l ∧ (neg = true → l ≠ []) ∧ c ≤ maxLen ∧ z = sgn neg (pval 4294967296 l)
theorem ZR.pu {w w' : World} {v : Value} {z : Int} (h : ZR w v z) (hp : Pu w w') : ZR w' v z := by
  obtain ⟨neg, A, n, c, l, h1, h2, h3⟩ := h
  exact ⟨neg, A, n, c, l, h1, h2.pu hp, h3⟩
/-- a tidy list is short when what it is worth is small -/
theorem tidy_len {l : List Nat} (ht : Tidy l) {k : Nat} (h : pval 4294967296 l < 4294967296 ^ k) : l.length ≤ k := by
  rcases Decidable.em (l = []) with e | e
  · subst e
    exact Nat.zero_le _
  · have h1 := pval_ge (b := 4294967296) (by omega) ht e
    have h2 := (Nat.pow_lt_pow_iff_right (a := 4294967296) (by omega)).1 (Nat.lt_of_le_of_lt h1 h)
    omega
theorem tidied_Sl {w : World} {A : Option Addr} {n c : Nat} {l : List Nat} (h : Sl w 1 A n c (wds l)) : Sl w 1 A (tidied l).length c (wds (tidied l)) := by
  have hl := h.wlen
  obtain ⟨k, hk, e⟩ := tidied_prefix l
  have h1 := h.pre (k := k) (by omega)
  rw [← wds_take, ← e] at h1
  have h2 := h1.wlen
  rwa [← h2] at h1
theorem made_val (g : Bool) (l : List Nat) : sgn g (pval 4294967296 l) = sgn (g && decide (0 < (tidied l).length)) (pval 4294967296 (tidied l)) := by
  rw [tidied_val]
  cases g
  · rfl
  · by_cases h : 0 < (tidied l).length
    · simp [h]
    · have e : tidied l = [] := List.eq_nil_of_length_eq_zero (by omega)
      have e2 : pval 4294967296 l = 0 := by rw [← tidied_val, e]; rfl
      rw [e2, sgn_zero, sgn_zero]

set_option maxRecDepth 100000 in
theorem made_any (g : Bool) (A : Option Addr) (n c : Nat) (l : List Nat) (w : World) (h : Sl w 1 A n c (wds l)) (hn : n ≤ 1000000) (hc : c ≤ maxLen) (hb : Below_ 4294967296 l) :
    Calls Tryd.prog 38 #[.bool g, .slice A n c] w fun e w' => ∃ v, e = .returned v ∧ ZR w' v (sgn g (pval 4294967296 l)) ∧ Pu w w' := by
  have hW : Pu w (w.alloc (.cells #[.bool false, .slice none 0 0] 25)) := (Pu.refl w).alloc _
  have hle := tidied_len l
  have hl := h.wlen
  have htr := trim_any A n c l _ (h.pu hW) hn hc
  have fin : ∀ neg, neg = (g && decide (0 < (tidied l).length)) → ZR (w.alloc (.cells #[.bool neg, .slice A (tidied l).length c] 25)) (.agg #[.bool neg, .slice A (tidied l).length c]) (sgn g (pval 4294967296 l)) := fun neg e => by
    refine ⟨neg, A, _, c, tidied l, rfl, tidied_Sl (h.pu ((Pu.refl w).alloc _)), tidied_below hb, tidied_tidy l, fun hg he => ?_, hc, by rw [e]; exact made_val g l⟩
    rw [hg, he] at e
    simp at e
  have Fin := Lib.hid fin
  clear fin
  generalize (tidied l).length = k at *
  go_enter Tryd.func38, Tryd.ntmps38
  go_wp2_with fail
  refine htr.mono ?_
  rintro e w1 ⟨rfl, rfl⟩
  cases g
  · go_wp2
    have c0 : (w.alloc (.cells #[.bool false, .slice A k c] 25)).cell? ⟨w.heap.size, 0, none⟩ = some (.bool false) := (Blk.new w _ _).cell 0
    have c1 : (w.alloc (.cells #[.bool false, .slice A k c] 25)).cell? ⟨w.heap.size, 1, none⟩ = some (.slice A k c) := (Blk.new w _ _).cell 1
    refine bodyPost_ret (v := .agg #[.bool false, .slice A k c]) (by simp [results, Tryd.results38, go_sem, c0, c1]) rfl ⟨_, rfl, Fin.out false (by simp), (Pu.refl w).alloc _⟩
  · rcases Nat.eq_zero_or_pos k with h0 | h0
    · subst h0
      go_wp2
      have c0 : (w.alloc (.cells #[.bool false, .slice A 0 c] 25)).cell? ⟨w.heap.size, 0, none⟩ = some (.bool false) := (Blk.new w _ _).cell 0
      have c1 : (w.alloc (.cells #[.bool false, .slice A 0 c] 25)).cell? ⟨w.heap.size, 1, none⟩ = some (.slice A 0 c) := (Blk.new w _ _).cell 1
      refine bodyPost_ret (v := .agg #[.bool false, .slice A 0 c]) (by simp [results, Tryd.results38, go_sem, c0, c1]) rfl ⟨_, rfl, Fin.out false (by simp), (Pu.refl w).alloc _⟩
    · have d1 : decide (0 < k) = true := by simp [h0]
      have d2 : decide (0 < (k : Int)) = true := by simp; omega
      have d3 : decide ((k : Int) > 0) = true := by simp; omega
      go_wp2
      have c0 : (w.alloc (.cells #[.bool true, .slice A k c] 25)).cell? ⟨w.heap.size, 0, none⟩ = some (.bool true) := (Blk.new w _ _).cell 0
      have c1 : (w.alloc (.cells #[.bool true, .slice A k c] 25)).cell? ⟨w.heap.size, 1, none⟩ = some (.slice A k c) := (Blk.new w _ _).cell 1
      refine bodyPost_ret (v := .agg #[.bool true, .slice A k c]) (by simp [results, Tryd.results38, go_sem, c0, c1]) rfl ⟨_, rfl, Fin.out true (by simp [h0]), (Pu.refl w).alloc _⟩
end Go.Proofs.YtckfnbckoclhpaaDoor
