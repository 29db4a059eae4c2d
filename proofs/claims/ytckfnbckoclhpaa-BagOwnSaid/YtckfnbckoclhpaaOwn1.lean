/- What BagOwn keeps: the set, the row and the map beside rows that are written over; the map of a list's places. -/
import Derived.Test.YtckfnbckoclhpaaMap6
import Derived.Test.YtckfnbckoclhpaaRing3
import Derived.Test.YtckfnbckoclhpaaSetI2
set_option linter.unusedVariables false
namespace Go.Proofs.Ytckfnbckoclhpaa
open Go.RowKit

/-- the places of a list, with what stands there -/
def en (zs : List Int) : List (Int × Int) := zs.zipIdx.map fun p => ((p.2 : Int), p.1)
theorem en_len (zs : List Int) : (en zs).length = zs.length := by simp [en]
theorem en_get (zs : List Int) (i : Nat) : (en zs)[i]? = zs[i]?.map fun z => ((i : Int), z) := by
  simp only [en, List.getElem?_map, List.getElem?_zipIdx]
  cases zs[i]? <;> simp
theorem en_snoc (zs : List Int) (x : Int) : en (zs ++ [x]) = en zs ++ [((zs.length : Int), x)] := by simp [en, List.zipIdx_append]
theorem en_lt (zs : List Int) : ∀ p ∈ en zs, p.1 < (zs.length : Int) := by
  intro p hp
  obtain ⟨i, hi⟩ := List.getElem?_of_mem hp
  rw [en_get] at hi
  cases h : zs[i]? with
  | none => rw [h] at hi; cases hi
  | some z =>
    rw [h] at hi
    injection hi with hi
    rw [← hi]
    have := (List.getElem?_eq_some_iff.1 h).1
    show (i : Int) < _
    omega
theorem en_put (zs : List Int) (x : Int) : putM (en zs) zs.length x = en (zs ++ [x]) := by
  have h1 : there (en zs) zs.length = false := by
    unfold there
    rw [List.any_eq_false]
    intro p hp
    have := en_lt zs p hp
    simp
    omega
  have h2 : place (en zs) zs.length = (en zs).length := by
    unfold place
    rw [List.countP_eq_length]
    intro p hp
    simpa using en_lt zs p hp
  unfold putM
  rw [h1, h2, if_neg (by simp), List.take_of_length_le (Nat.le_refl _), List.drop_eq_nil_of_le (Nat.le_refl _), en_snoc]
theorem en_take {zs : List Int} {j : Nat} {x : Int} (h : zs[j]? = some x) : putM (en (zs.take j)) j x = en (zs.take (j + 1)) := by
  have hj := (List.getElem?_eq_some_iff.1 h).1
  have := en_put (zs.take j) x
  rw [List.length_take, Nat.min_eq_left (by omega)] at this
  rw [this, List.take_add_one, h]
  rfl
theorem en_val {zs : List Int} (hr : Rise (en zs)) {j : Nat} {x : Int} (h : zs[j]? = some x) : there (en zs) j = true ∧ getV (en zs) j = x := by
  have hg : (en zs)[j]? = some ((j : Int), x) := by rw [en_get, h]; rfl
  obtain ⟨h1, h2⟩ := there_at hr hg rfl
  refine ⟨h1, ?_⟩
  unfold getV
  rw [h1, h2, hg]
  rfl

/-- bag.Of at int, where its row lies -/
theorem of_intB (A : Option Addr) (n c : Nat) (zs : List Int) (w : World) (h : Sl w 1 A n c (ivs zs)) (hn : n ≤ 1000000) :
    Calls Try.prog 25 #[.slice A n c] w fun e w' => ∃ A' n', e = .returned (.agg #[.slice A' n' n']) ∧ n' ≤ n ∧ Sl w' 1 A' n' n' (ivs (norm zs)) ∧ (∀ b off, A' = some ⟨b, off, none⟩ → w.heap.size ≤ b ∧ b < w'.heap.size) ∧ Pu w w' := by
  go_enter Try.func25, Try.ntmps25
  go_wp2_with fail
  have hW := (Pu.refl w).alloc (Obj.cells #[Value.slice none 0 0] 54)
  refine (clone_int A n c zs _ (h.pu hW) hn).mono ?_
  rintro e w1 ⟨A1, c1, rfl, ho1, h1⟩
  have H1 := hW.trans h1
  go_wp2_with fail
  refine (sort_int _ A1 n c1 zs _ ho1 hn).mono ?_
  rintro e w2 ⟨rfl, ho2, h2⟩
  go_wp2_with fail
  refine (compact_int _ A1 n c1 _ _ ho2 hn).mono ?_
  rintro e w3 ⟨rfl, hle, hnc, hcm, ho3, h3⟩
  go_wp2_with fail
  refine (clip_int A1 _ c1 _ (by omega)).mono ?_
  rintro e w4 ⟨rfl, rfl⟩
  have hb : Blk w3 w.heap.size 54 #[.slice none 0 0] := (((Blk.new w _ _).pu h1).fr h2 (by simp)).fr h3 (by simp)
  have hc : w3.cell? ⟨w.heap.size, 0, none⟩ = some (.slice none 0 0) := hb.cell 0
  have hf : w3.frozen? ⟨w.heap.size, 0, none⟩ = false := hb.frozen 0
  have hP : Pu w w3 := (H1.step h2 (by simp; omega)).step h3 (by simp; omega)
  go_wp2_with fail
  refine bodyPost_ret (v := .agg #[.slice A1 (norm zs).length (norm zs).length]) (by simp [results, Try.results25, go_sem, hc, norm]) rfl ⟨A1, _, rfl, hle, ?_, ?_, ?_⟩
  · refine (Sl.of_own ho3).clip.fr (Fr.one _ _ _ _) (fun _ b off hA => ?_)
    have := own_ge ho3 b off hA
    simp at this
    omega
  · intro b off hA
    have h4 := own_ge ho3 b off hA
    have h5 := (ho3.lt b (by rw [hA]; rfl)).2
    simp at h4
    simp only [World.setCell, Array.size_modify]
    omega
  · exact hP.setCell (Nat.le_refl _) _

/-- a row of numbers of the call's own, whichever they are -/
def IntRow (base : Nat) (A : Option Addr) (n c : Nat) (w : World) : Prop := ∃ zs, w.ownsRow base 3 1 (.slice A n c) n (ivs zs)
theorem IntRow.at_ {base n c j : Nat} {A : Option Addr} {w : World} (h : IntRow base A n c w) (hj : j < n) : ∃ g z, A = some ⟨g, 0, none⟩ ∧ base ≤ g ∧ g < w.heap.size ∧ w.cell? ⟨g, j, none⟩ = some (.int .i64 z) ∧ w.frozen? ⟨g, j, none⟩ = false := by
  obtain ⟨zs, h⟩ := h
  have hl : zs.length = n := by have := h.1; simpa using this
  obtain ⟨g, cur, rfl, hb, hg, hnc, hcm, hcs, htk⟩ := own_blk h (by omega)
  refine ⟨g, zs[j], rfl, hb, hg.lt, ?_, hg.frozen j⟩
  have h2 : (ivs zs)[j]? = some (.int .i64 zs[j]) := by rw [List.getElem?_map, List.getElem?_eq_getElem (by omega)]; rfl
  rw [← htk, List.getElem?_take, if_pos (by omega), Array.getElem?_toList] at h2
  rw [hg.cell, h2]
theorem IntRow.fr {S : Nat → Prop} {base n c : Nat} {A : Option Addr} {w w' : World} (h : IntRow base A n c w) (hf : Fr S w w') (hs : ∀ g, (Value.slice A n c).ownBlock = some g → ¬ S g) : IntRow base A n c w' := by
  obtain ⟨zs, h⟩ := h
  exact ⟨zs, own_fr h hf hs⟩
theorem IntRow.pu {base n c : Nat} {A : Option Addr} {w w' : World} (h : IntRow base A n c w) (hf : Pu w w') : IntRow base A n c w' := h.fr hf (fun _ _ x => x)
/-- a number that is written anywhere leaves it one -/
theorem IntRow.set {base n c : Nat} {A : Option Addr} {w : World} (h : IntRow base A n c w) (q o : Nat) (z : Int) : IntRow base A n c (w.setCell ⟨q, o, none⟩ (.int .i64 z)) := by
  obtain ⟨zs, h⟩ := h
  have hl : zs.length = n := by have := h.1; simpa using this
  by_cases hq : (Value.slice A n c).ownBlock = some q
  · rcases h.2 with ⟨hv, _⟩ | ⟨g, cap, cur, hv, hb, hgg, hnc, hcm, hcs, htk⟩
    · rw [hv] at hq
      cases hq
    · have e : g = q := by
        rw [hv] at hq
        injection hq
      subst e
      refine ⟨zs.set o z, by simp [hl], .inr ⟨g, cap, cur.setIfInBounds o (.int .i64 z), hv, hb, Blk.set_ hgg o _, hnc, hcm, by rw [Array.size_setIfInBounds, hcs], ?_⟩⟩
      have e2 : ivs (zs.set o z) = (ivs zs).set o (.int .i64 z) := by simp [List.map_set]
      rw [e2, ← htk, Array.toList_setIfInBounds, List.take_set]
  · exact ⟨zs, own_fr h (Fr.one w q o _) (fun g hg hS => by
      subst hS
      exact hq hg)⟩

/-- a set, a row and a map, all of them laid between lo and hi -/
structure Keep (lo hi b4 : Nat) (As : Option Addr) (ns b g bm : Nat) (r : Option Nat) (zs : List Int) (w : World) : Prop where
  set : Blk w b4 54 #[.slice As ns ns]
  sl : Sl w 1 As ns ns (ivs (norm zs))
  row : RowR w b g zs
  map : MapR w lo bm r (en zs)
  h4 : lo ≤ b4 ∧ b4 < hi
  hs : ∀ q off, As = some ⟨q, off, none⟩ → lo ≤ q ∧ q < hi
  hb : lo ≤ b ∧ b < hi
  hg : lo ≤ g ∧ g < hi
  hm : lo ≤ bm ∧ bm < hi
  hr : ∀ q, r = some q → lo ≤ q ∧ q < hi
theorem Keep.fr {S : Nat → Prop} {lo hi b4 ns b g bm : Nat} {As : Option Addr} {r : Option Nat} {zs : List Int} {w w' : World} (h : Keep lo hi b4 As ns b g bm r zs w) (hf : Fr S w w') (hS : ∀ k, S k → k < lo ∨ hi ≤ k) : Keep lo hi b4 As ns b g bm r zs w' := by
  have no : ∀ k, lo ≤ k ∧ k < hi → ¬ S k := fun k hk h => by have := hS k h; omega
  exact ⟨h.set.fr hf (no _ h.h4), h.sl.fr hf (fun _ q off e => no _ (h.hs q off e)), h.row.fr hf (no _ h.hb) (no _ h.hg), h.map.fr hf (no _ h.hm) (fun q e => no _ (h.hr q e)), h.h4, h.hs, h.hb, h.hg, h.hm, h.hr⟩
theorem Keep.pu {lo hi b4 ns b g bm : Nat} {As : Option Addr} {r : Option Nat} {zs : List Int} {w w' : World} (h : Keep lo hi b4 As ns b g bm r zs w) (hf : Pu w w') : Keep lo hi b4 As ns b g bm r zs w' := h.fr hf (fun _ h => h.elim)
theorem Keep.out {lo hi b4 ns b g bm q o : Nat} {As : Option Addr} {r : Option Nat} {zs : List Int} {w : World} (h : Keep lo hi b4 As ns b g bm r zs w) (u : Value) (hq : q < lo ∨ hi ≤ q) : Keep lo hi b4 As ns b g bm r zs (w.setCell ⟨q, o, none⟩ u) :=
  h.fr (Fr.one w q o u) (fun k e => by rw [e]; exact hq)
end Go.Proofs.Ytckfnbckoclhpaa
