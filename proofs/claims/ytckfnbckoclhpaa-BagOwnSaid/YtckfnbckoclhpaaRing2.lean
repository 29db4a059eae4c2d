/- Rows of int in a ring: what a row reads as; Push, Pop, Last, Len. -/
import Derived.Test.YtckfnbckoclhpaaRing
import Derived.Deep.RegionLaw
set_option linter.unusedVariables false
namespace Go.Proofs.Ytckfnbckoclhpaa
open Go.RowKit

theorem ring_mod (f i rl : Nat) (hf : f < rl) (hi : i < rl) : (f + i < rl ∧ (f + i) % rl = f + i) ∨ (rl ≤ f + i ∧ (f + i) % rl = f + i - rl) := by
  rcases Nat.lt_or_ge (f + i) rl with h | h
  · exact .inl ⟨h, Nat.mod_eq_of_lt h⟩
  · exact .inr ⟨h, by rw [Nat.mod_eq_sub_mod h, Nat.mod_eq_of_lt (by omega)]⟩

/-- the row at b, whose ring at g has rl cells, reads as l from f on -/
structure RowC (w : World) (b g rl f : Nat) (l : List Int) (cs : Array Value) : Prop where
  row : Blk w b 86 #[.slice (some ⟨g, 0, none⟩) rl rl, .int .i64 f, .int .i64 l.length]
  ring : Blk w g 3 cs
  sz : cs.size = rl
  len : l.length ≤ rl
  le : rl ≤ 600
  fl : f < rl
  has : ∀ i x, l[i]? = some x → cs[(f + i) % rl]? = some (.int .i64 x)

/-- a row: just made, or with a ring -/
def RowR (w : World) (b g : Nat) (l : List Int) : Prop :=
  (l = [] ∧ Blk w b 86 #[.slice none 0 0, .int .i64 0, .int .i64 0]) ∨ ∃ rl f cs, RowC w b g rl f l cs

section
variable {w w' : World} {b g rl f : Nat} {l : List Int} {cs : Array Value}
theorem RowC.ne (h : RowC w b g rl f l cs) : g ≠ b := h.ring.ne_ h.row (by decide)
theorem RowC.fr {S : Nat → Prop} (h : RowC w b g rl f l cs) (hf : Fr S w w') (h1 : ¬ S b) (h2 : ¬ S g) : RowC w' b g rl f l cs :=
  ⟨h.row.fr hf h1, h.ring.fr hf h2, h.sz, h.len, h.le, h.fl, h.has⟩
theorem RowC.drewN (h : RowC w b g rl f l cs) (n : Nat) : RowC (w.drewN n) b g rl f l cs := ⟨h.row, h.ring, h.sz, h.len, h.le, h.fl, h.has⟩
theorem RowR.fr {S : Nat → Prop} (h : RowR w b g l) (hf : Fr S w w') (h1 : ¬ S b) (h2 : ¬ S g) : RowR w' b g l := by
  rcases h with ⟨e, h⟩ | ⟨rl, f, cs, h⟩
  · exact .inl ⟨e, h.fr hf h1⟩
  · exact .inr ⟨rl, f, cs, h.fr hf h1 h2⟩
theorem RowR.pu (h : RowR w b g l) (hf : Pu w w') : RowR w' b g l := h.fr hf (fun x => x) (fun x => x)
theorem RowR.count (h : RowR w b g l) : w.cell? ⟨b, 2, none⟩ = some (.int .i64 l.length) ∧ w.frozen? ⟨b, 2, none⟩ = false ∧ l.length ≤ 600 ∧ b < w.heap.size := by
  rcases h with ⟨rfl, h⟩ | ⟨rl, f, cs, h⟩
  · exact ⟨h.cell 2, h.frozen 2, by simp, h.lt⟩
  · exact ⟨h.row.cell 2, h.row.frozen 2, Nat.le_trans h.len h.le, h.row.lt⟩
theorem RowC.push (h : RowC w b g rl f l cs) (hlt : l.length < rl) (x : Int) :
    RowC ((w.setCell ⟨g, (f + l.length) % rl, none⟩ (.int .i64 x)).setCell ⟨b, 2, none⟩ (.int .i64 ((l.length : Int) + 1))) b g rl f (l ++ [x]) (cs.setIfInBounds ((f + l.length) % rl) (.int .i64 x)) := by
  have hm := Nat.mod_lt (f + l.length) (show 0 < rl by omega)
  refine ⟨?_, (h.ring.set_ _ _).far h.ne _, by rw [Array.size_setIfInBounds, h.sz], by simp; omega, h.le, h.fl, ?_⟩
  · have := (h.row.far (p := ⟨g, (f + l.length) % rl, none⟩) (fun e => h.ne e.symm) (.int .i64 x)).set_ 2 (.int .i64 ((l.length : Int) + 1))
    simpa using this
  · intro i y hy
    rcases Nat.lt_or_ge i l.length with hi | hi
    · rw [List.getElem?_append_left hi] at hy
      rw [Array.getElem?_setIfInBounds_ne, h.has i y hy]
      have h1 := ring_mod f i rl h.fl (by omega)
      have h2 := ring_mod f l.length rl h.fl hlt
      have := h.fl
      omega
    · have hi2 : i = l.length := by
        have := (List.getElem?_eq_some_iff.1 hy).1
        simp at this
        omega
      subst hi2
      rw [List.getElem?_append_right (Nat.le_refl _)] at hy
      simp at hy
      subst hy
      rw [Array.getElem?_setIfInBounds_self_of_lt (by rw [h.sz]; exact hm)]
theorem RowC.pop {x : Int} {t : List Int} (h : RowC w b g rl f (x :: t) cs) :
    RowC (((w.setCell ⟨g, f, none⟩ (.int .i64 0)).setCell ⟨b, 1, none⟩ (.int .i64 (((f + 1) % rl : Nat) : Int))).setCell ⟨b, 2, none⟩ (.int .i64 t.length)) b g rl ((f + 1) % rl) t (cs.setIfInBounds f (.int .i64 0)) := by
  have hl := h.len
  have hfl := h.fl
  simp only [List.length_cons] at hl
  refine ⟨?_, ((h.ring.set_ _ _).far h.ne _).far h.ne _, by rw [Array.size_setIfInBounds, h.sz], by omega, h.le, Nat.mod_lt _ (by omega), ?_⟩
  · have := ((h.row.far (p := ⟨g, f, none⟩) (fun e => h.ne e.symm) (.int .i64 0)).set_ 1 (.int .i64 (((f + 1) % rl : Nat) : Int))).set_ 2 (.int .i64 t.length)
    simpa using this
  · intro i y hy
    have hi := (List.getElem?_eq_some_iff.1 hy).1
    have h0 := h.has (i + 1) y (by simpa using hy)
    have e : ((f + 1) % rl + i) % rl = (f + (i + 1)) % rl := by
      rw [Nat.mod_add_mod]
      congr 1
      omega
    rw [e, Array.getElem?_setIfInBounds_ne, h0]
    have h1 := ring_mod f (i + 1) rl hfl (by omega)
    omega
theorem RowC.last {x : Int} {t : List Int} (h : RowC w b g rl f (t ++ [x]) cs) :
    RowC ((w.setCell ⟨b, 2, none⟩ (.int .i64 t.length)).setCell ⟨g, (f + t.length) % rl, none⟩ (.int .i64 0)) b g rl f t (cs.setIfInBounds ((f + t.length) % rl) (.int .i64 0)) := by
  have hl := h.len
  have hfl := h.fl
  simp only [List.length_append, List.length_cons, List.length_nil] at hl
  refine ⟨?_, (h.ring.far h.ne _).set_ _ _, by rw [Array.size_setIfInBounds, h.sz], by omega, h.le, h.fl, ?_⟩
  · have := (h.row.set_ 2 (.int .i64 t.length)).far (p := ⟨g, (f + t.length) % rl, none⟩) (fun e => h.ne e.symm) (.int .i64 0)
    simpa using this
  · intro i y hy
    have hi := (List.getElem?_eq_some_iff.1 hy).1
    have h0 := h.has i y (by rw [List.getElem?_append_left hi]; exact hy)
    rw [Array.getElem?_setIfInBounds_ne, h0]
    have h1 := ring_mod f i rl hfl (by omega)
    have h2 := ring_mod f t.length rl hfl (by omega)
    omega
end

theorem grow_any (b g : Nat) (l : List Int) (n : Nat) (w : World) (h : RowR w b g l) (hn : l.length + n ≤ 300) :
    Calls Try.prog 53 #[.pointer (some ⟨b, 0, none⟩), .int .i64 n] w fun e w' => e = .returned (.tuple #[]) ∧ ∃ g', (g' = g ∨ (w.heap.size ≤ g' ∧ g' < w'.heap.size)) ∧ RowR w' b g' l ∧
      (0 < n → ∃ rl f cs, RowC w' b g' rl f l cs ∧ l.length + n ≤ rl) ∧ Fr (fun k => k = b) w w' := by
  rcases h with ⟨rfl, hb⟩ | ⟨rl, f, cs, hc⟩
  · rcases Nat.eq_zero_or_pos n with h0 | h0
    · subst h0
      refine (grow_stay b none 0 0 0 0 0 w hb (by omega) (by omega)).mono ?_
      rintro e w' ⟨rfl, q, rfl⟩
      exact ⟨rfl, g, .inl rfl, .inl ⟨rfl, hb⟩, fun h => by omega, (Fr.refl _ _).drewN _⟩
    · simp only [List.length_nil] at hn
      refine (grow_more b 0 none 0 0 0 0 n (fun _ => 0) w hb (by omega) (by omega) (by omega) (fun h => by omega) (fun h => by omega) (fun i h => by omega)).mono ?_
      rintro e w' ⟨rfl, r2, cs, h1, h2, h3, h4, h5, h6⟩
      have hr : RowC w' b r2 (room 0 0 n) 0 [] cs := ⟨h1, h3, h4, by simp, by unfold room; omega, by unfold room; omega, fun i x hx => by simp at hx⟩
      exact ⟨rfl, r2, .inr ⟨h2, h3.lt⟩, .inr ⟨_, _, _, hr⟩, fun _ => ⟨_, _, _, hr, by unfold room; simp; omega⟩, h6⟩
  · have hrl := hc.le
    have hfl := hc.fl
    by_cases hr : l.length + n ≤ rl
    · refine (grow_stay b _ rl rl f l.length n w hc.row (by omega) hr).mono ?_
      rintro e w' ⟨rfl, q, rfl⟩
      exact ⟨rfl, g, .inl rfl, .inr ⟨_, _, _, hc.drewN q⟩, fun _ => ⟨_, _, _, hc.drewN q, hr⟩, (Fr.refl _ _).drewN _⟩
    · have hV : ∀ i, i < l.length → w.cell? ⟨g, (f + i) % rl, none⟩ = some (.int .i64 (l[i]?.getD 0)) := fun i hi => by
        rw [hc.ring.cell, hc.has i l[i] (List.getElem?_eq_getElem hi), List.getElem?_eq_getElem hi]
        rfl
      refine (grow_more b g _ rl rl f l.length n (fun i => l[i]?.getD 0) w hc.row (by omega) (by omega) (by omega) (fun _ => rfl) (fun _ => hfl) hV).mono ?_
      rintro e w' ⟨rfl, r2, cs2, h1, h2, h3, h4, h5, h6⟩
      have hr : RowC w' b r2 (room rl l.length n) 0 l cs2 := ⟨h1, h3, h4, by unfold room; omega, by unfold room; omega, by unfold room; omega, fun i x hx => by
        have hi := (List.getElem?_eq_some_iff.1 hx).1
        rw [Nat.zero_add, Nat.mod_eq_of_lt (by unfold room; omega), h5 i hi, hx]
        rfl⟩
      exact ⟨rfl, r2, .inr ⟨h2, h3.lt⟩, .inr ⟨_, _, _, hr⟩, fun _ => ⟨_, _, _, hr, by unfold room; omega⟩, h6⟩

theorem rlen_any (b g : Nat) (l : List Int) (w : World) (h : RowR w b g l) :
    Calls Try.prog 22 #[.pointer (some ⟨b, 0, none⟩)] w fun e w' => e = .returned (.int .i64 l.length) ∧ w = w' := by
  obtain ⟨c2, _, _, _⟩ := h.count
  go_enter Try.func22, Try.ntmps22
  go_wp2
  go_ret
  exact ⟨rfl, rfl⟩

set_option maxHeartbeats 1600000 in
set_option maxRecDepth 100000 in
theorem rpush_any (b g : Nat) (l ys : List Int) (A : Option Addr) (n c : Nat) (w : World) (h : RowR w b g l) (hy : Sl w 1 A n c (ivs ys)) (hn : l.length + n ≤ 300)
    (hA : 0 < n → ∀ k off, A = some ⟨k, off, none⟩ → k ≠ b ∧ k ≠ g) :
    Calls Try.prog 19 #[.pointer (some ⟨b, 0, none⟩), .slice A n c] w fun e w' => e = .returned (.tuple #[]) ∧ ∃ g', (g' = g ∨ (w.heap.size ≤ g' ∧ g' < w'.heap.size)) ∧ RowR w' b g' (l ++ ys) ∧ Fr (fun k => k = b ∨ k = g) w w' := by
  have hl : ys.length = n := by have := hy.1; simpa using this
  go_enter Try.func19, Try.ntmps19
  go_wp2_with fail
  refine (grow_any b g l n _ h hn).mono ?_
  rintro e w1 ⟨rfl, g1, hg1, hR, hC, hF⟩
  have hy1 := hy.fr hF (fun h0 k off e => (hA h0 k off e).1)
  have hF' : Fr (fun k => k = b ∨ k = g) w w1 := hF.mono (fun k _ h => .inl h)
  rcases Nat.eq_zero_or_pos n with h0 | h0
  · subst h0
    obtain rfl : ys = [] := List.eq_nil_of_length_eq_zero hl
    clear hC hA
    go_wp2_with fail
    go_loopw [12] (fun v wr => v = .int .i64 0 ∧ wr = w1) (fun v _ => 0)
    case atStart => exact ⟨rfl, rfl⟩
    case round =>
      obtain ⟨rfl, rfl⟩ := hrel
      go_wp2_with fail
      refine bodyPost_end (results_none rfl _ _ _) rfl ?_
      exact ⟨rfl, g1, hg1, by simpa using hR, hF'⟩
  · obtain ⟨rl, f, cs, hc, hcn⟩ := hC h0
    obtain ⟨B, off, rfl, hBlt, hcell⟩ := hy.2.2 h0
    obtain ⟨hB1, hB2⟩ := hA h0 B off rfl
    have hB3 : B ≠ g1 := by
      rcases hg1 with e | e
      · rw [e]; exact hB2
      · exact Nat.ne_of_lt (Nat.lt_of_lt_of_le hBlt e.1)
    have hcell1 : ∀ (j : Nat) (x : Int), ys[j]? = some x → w1.cell? ⟨B, off + j, none⟩ = some (.int .i64 x) := fun j x hj => by
      have := hcell j (.int .i64 x) (by rw [ivs, List.getElem?_map, hj]; rfl)
      exact hF.cellv this hB1
    have HE := Lib.hid hcell1
    have hBlt1 := Nat.lt_of_lt_of_le hBlt hF.size
    clear hR hC hy1 hcell hA hcell1 hy
    go_wp2_with fail
    go_loopw [12] (fun v wr => ∃ (k : Nat) (cs : Array Value), k ≤ n ∧ v = .int .i64 k ∧ RowC wr b g1 rl f (l ++ ys.take k) cs ∧ Fr (fun i => i = b ∨ i = g1) w1 wr) (fun v _ => n - (intOf v).toNat)
    case atStart => exact ⟨0, cs, Nat.zero_le _, rfl, by simpa using hc, Fr.refl _ _⟩
    case round =>
      obtain ⟨k, cs, hk, rfl, hcr, hFr⟩ := hrel
      by_cases hlt : k < n
      · obtain ⟨x, hx⟩ : ∃ x, ys[k]? = some x := ⟨_, List.getElem?_eq_getElem (by omega)⟩
        have ec : wr.cell? ⟨B, off + k, none⟩ = some (.int .i64 x) := hFr.cellv (HE.out k x hx) (by simp [hB1, hB3])
        have hlen : (l ++ ys.take k).length = l.length + k := by simp; omega
        have htake : (l ++ ys.take k) ++ [x] = l ++ ys.take (k + 1) := by
          rw [List.append_assoc, List.take_add_one, hx]
          rfl
        generalize l ++ ys.take k = L at *
        have h1 : ∀ N, RowC (((wr.drewN N).setCell ⟨g1, (f + L.length) % rl, none⟩ (.int .i64 x)).setCell ⟨b, 2, none⟩ (.int .i64 ((L.length : Int) + 1))) b g1 rl f (l ++ ys.take (k + 1)) (cs.setIfInBounds ((f + L.length) % rl) (.int .i64 x)) := fun N => by
          rw [← htake]
          exact (hcr.drewN N).push (by omega) x
        have H1 := Lib.hid h1
        clear h1
        have hne2 : b ≠ g1 := fun e => hcr.ne e.symm
        have hle := hcr.le
        have hfl := hcr.fl
        have hne := hcr.ne
        have q0 : wr.cell? ⟨b, 0, none⟩ = some (.slice (some ⟨g1, 0, none⟩) rl rl) := hcr.row.cell 0
        have q2 : wr.cell? ⟨b, 2, none⟩ = some (.int .i64 L.length) := hcr.row.cell 2
        have f2 : wr.frozen? ⟨b, 2, none⟩ = false := hcr.row.frozen 2
        have gm : (f + L.length) % rl < rl := Nat.mod_lt _ (by omega)
        have gk : ∃ u, wr.cell? ⟨g1, (f + L.length) % rl, none⟩ = some u := ⟨_, (hcr.ring.cell _).trans (Array.getElem?_eq_getElem (by rw [hcr.sz]; exact gm))⟩
        obtain ⟨u, gk⟩ := gk
        have gf : wr.frozen? ⟨g1, (f + L.length) % rl, none⟩ = false := hcr.ring.frozen _
        have hrow := hcr.row
        have hgl := hcr.ring.lt
        have hbl := hcr.row.lt
        have hll : L.length ≤ 300 := by omega
        have Hlen := Lib.hid hlen
        have Hx := Lib.hid hx
        have Hc := Lib.hid hcr
        have HF := Lib.hid hFr
        clear hlen hx htake hcr hFr hF hF' hc
        generalize hq : (f + L.length) % rl = q at *
        generalize hL : L.length = cn at *
        have Hq := Lib.hid hq
        have HL := Lib.hid hL
        clear hq hL
        have s1 : IntKind.i64.wrap ((cn : Int) + 1) = (cn : Int) + 1 := IntWalk.i64_in _ (by omega)
        go_wp2_with fail
        go_region_with (go_at_call 54; refine (at_q b _ rl rl f cn cn q _ hrow.drew (by omega) (by omega) hfl (by omega) Hq).mono ?_; rintro e w' ⟨rfl, qq, rfl⟩)
        all_goals
          go_wp2
          go_roundw
          case rel => exact ⟨k + 1, _, by omega, by go_num, H1.out _, ((HF.out.drewN _).setCell (p := ⟨g1, q, none⟩) (.inl (.inr rfl)) _).setCell (p := ⟨b, 2, none⟩) (.inl (.inl rfl)) _⟩
          case measure => simp [intOf]; omega
      · obtain rfl : k = n := by omega
        go_wp2_with fail
        refine bodyPost_end (results_none rfl _ _ _) rfl ?_
        rw [List.take_of_length_le (by omega)] at hcr
        refine ⟨rfl, g1, (Or.elim hg1 (fun e => .inl e) (fun e => .inr ⟨e.1, Nat.lt_of_lt_of_le e.2 hFr.size⟩)), .inr ⟨_, _, _, hcr⟩, hF'.step hFr (fun i hi => ?_)⟩
        rcases hi with e | e
        · exact .inl (.inl e)
        · rcases hg1 with e1 | e1
          · exact .inl (.inr (e.trans e1))
          · exact .inr (by rw [e]; exact e1.1)

theorem rpop_nil (b g : Nat) (w : World) (h : RowR w b g []) :
    Calls Try.prog 20 #[.pointer (some ⟨b, 0, none⟩)] w fun e w' => e = .returned (.tuple #[.int .i64 0, .bool false]) ∧ w = w' := by
  obtain ⟨c2, _, _, _⟩ := h.count
  simp only [List.length_nil] at c2
  go_enter Try.func20, Try.ntmps20
  go_wp2
  go_ret2
  exact ⟨rfl, rfl⟩

theorem rlast_nil (b g : Nat) (w : World) (h : RowR w b g []) :
    Calls Try.prog 21 #[.pointer (some ⟨b, 0, none⟩)] w fun e w' => e = .returned (.tuple #[.int .i64 0, .bool false]) ∧ w = w' := by
  obtain ⟨c2, _, _, _⟩ := h.count
  simp only [List.length_nil] at c2
  go_enter Try.func21, Try.ntmps21
  go_wp2
  go_ret2
  exact ⟨rfl, rfl⟩

set_option maxHeartbeats 1600000 in
set_option maxRecDepth 100000 in
theorem rpop_cons (b g : Nat) (x : Int) (t : List Int) (w : World) (h : RowR w b g (x :: t)) :
    Calls Try.prog 20 #[.pointer (some ⟨b, 0, none⟩)] w fun e w' => e = .returned (.tuple #[.int .i64 x, .bool true]) ∧ RowR w' b g t ∧ Fr (fun k => k = b ∨ k = g) w w' := by
  rcases h with ⟨h, _⟩ | ⟨rl, f, cs, hc⟩
  · cases h
  have hle := hc.le
  have hfl := hc.fl
  have hlen := hc.len
  have hne := hc.ne
  have hne2 : b ≠ g := fun e => hc.ne e.symm
  have hx := hc.has 0 x rfl
  rw [Nat.add_zero, Nat.mod_eq_of_lt hfl] at hx
  have c0 : w.cell? ⟨b, 0, none⟩ = some (.slice (some ⟨g, 0, none⟩) rl rl) := hc.row.cell 0
  have c1 : w.cell? ⟨b, 1, none⟩ = some (.int .i64 f) := hc.row.cell 1
  have c2 : w.cell? ⟨b, 2, none⟩ = some (.int .i64 (x :: t).length) := hc.row.cell 2
  have f1 : w.frozen? ⟨b, 1, none⟩ = false := hc.row.frozen 1
  have f2 : w.frozen? ⟨b, 2, none⟩ = false := hc.row.frozen 2
  have g0 : w.cell? ⟨g, f, none⟩ = some (.int .i64 x) := (hc.ring.cell f).trans hx
  have gf : w.frozen? ⟨g, f, none⟩ = false := hc.ring.frozen f
  have hgl := hc.ring.lt
  have hbl := hc.row.lt
  have h1 : ∀ N M, RowC ((((((w.drewN N).setCell ⟨g, f, none⟩ (.int .i64 0)).drewN M).setCell ⟨b, 1, none⟩ (.int .i64 (((f + 1) % rl : Nat) : Int)))).setCell ⟨b, 2, none⟩ (.int .i64 t.length)) b g rl ((f + 1) % rl) t (cs.setIfInBounds f (.int .i64 0)) := fun N M => ((hc.drewN N).pop).drewN M
  have hrow := hc.row
  have H1 := Lib.hid h1
  clear h1 hx hc
  have hL : (x :: t).length = t.length + 1 := rfl
  generalize hm : (x :: t).length = m at *
  have d0 : ((m : Int) == 0) = false := by simp; omega
  have s1 : IntKind.i64.wrap ((m : Int) - 1) = ((t.length : Nat) : Int) := by
    rw [IntWalk.i64_in _ (by omega)]
    omega
  have HL := Lib.hid hL
  have Hm := Lib.hid hm
  clear hL hm
  obtain ⟨q, hq⟩ : ∃ q, (f + 1) % rl = q := ⟨_, rfl⟩
  rw [hq] at H1
  have Hq := Lib.hid hq
  clear hq
  go_enter Try.func20, Try.ntmps20
  go_wp2_with fail
  go_quiet (fail)
  go_wp2_with fail
  go_region
  all_goals
    go_wp2_with fail
    refine (at_q b _ rl rl f 1 m q _ (Blk.far (Blk.drewN hrow _) hne2 _) (by omega) (by omega) hfl (by omega) Hq).mono ?_
    rintro e w' ⟨rfl, qq, rfl⟩
    go_wp2
    go_ret2
    exact ⟨rfl, .inr ⟨_, _, _, H1.out _ _⟩, ((((Fr.refl _ w).drewN _).setCell (p := ⟨g, f, none⟩) (.inl (.inr rfl)) _).drewN _).setCell (p := ⟨b, 1, none⟩) (.inl (.inl rfl)) _ |>.setCell (p := ⟨b, 2, none⟩) (.inl (.inl rfl)) _⟩

set_option maxHeartbeats 1600000 in
set_option maxRecDepth 100000 in
theorem rlast_snoc (b g : Nat) (x : Int) (t : List Int) (w : World) (h : RowR w b g (t ++ [x])) :
    Calls Try.prog 21 #[.pointer (some ⟨b, 0, none⟩)] w fun e w' => e = .returned (.tuple #[.int .i64 x, .bool true]) ∧ RowR w' b g t ∧ Fr (fun k => k = b ∨ k = g) w w' := by
  rcases h with ⟨h, _⟩ | ⟨rl, f, cs, hc⟩
  · simp at h
  have hle := hc.le
  have hfl := hc.fl
  have hlen := hc.len
  have hne := hc.ne
  have hne2 : b ≠ g := fun e => hc.ne e.symm
  have hx := hc.has t.length x (by simp)
  have c0 : w.cell? ⟨b, 0, none⟩ = some (.slice (some ⟨g, 0, none⟩) rl rl) := hc.row.cell 0
  have c2 : w.cell? ⟨b, 2, none⟩ = some (.int .i64 (t ++ [x]).length) := hc.row.cell 2
  have f2 : w.frozen? ⟨b, 2, none⟩ = false := hc.row.frozen 2
  have g0 : w.cell? ⟨g, (f + t.length) % rl, none⟩ = some (.int .i64 x) := (hc.ring.cell _).trans hx
  have gf : w.frozen? ⟨g, (f + t.length) % rl, none⟩ = false := hc.ring.frozen _
  have gm : (f + t.length) % rl < rl := Nat.mod_lt _ (by omega)
  have hgl := hc.ring.lt
  have hbl := hc.row.lt
  have h1 : ∀ N, RowC (((w.setCell ⟨b, 2, none⟩ (.int .i64 t.length)).drewN N).setCell ⟨g, (f + t.length) % rl, none⟩ (.int .i64 0)) b g rl f t (cs.setIfInBounds ((f + t.length) % rl) (.int .i64 0)) := fun N => (hc.last).drewN N
  have hrow := hc.row.set_ 2 (.int .i64 t.length)
  have H1 := Lib.hid h1
  clear h1 hx hc
  have hL : (t ++ [x]).length = t.length + 1 := by simp
  generalize hm : (t ++ [x]).length = m at *
  have d0 : ((m : Int) == 0) = false := by simp; omega
  have hm2 : t.length ≤ 600 := by omega
  have s1 : IntKind.i64.wrap ((m : Int) - 1) = ((t.length : Nat) : Int) := by
    rw [IntWalk.i64_in _ (by omega)]
    omega
  have HL := Lib.hid hL
  have Hm := Lib.hid hm
  clear hL hm
  generalize hq : (f + t.length) % rl = q at *
  have Hq := Lib.hid hq
  clear hq
  generalize t.length = tl at *
  go_enter Try.func21, Try.ntmps21
  go_wp2_with fail
  refine (at_q b _ rl rl f tl tl q _ (by simpa using hrow) (by omega) (by omega) hfl (by omega) Hq).mono ?_
  rintro e w' ⟨rfl, qq, rfl⟩
  go_wp2
  go_ret2
  exact ⟨rfl, .inr ⟨_, _, _, H1.out _⟩, (((Fr.refl _ w).setCell (p := ⟨b, 2, none⟩) (.inl (.inl rfl)) _).drewN _).setCell (p := ⟨g, q, none⟩) (.inl (.inr rfl)) _⟩

theorem newrow_any (ys : List Int) (A : Option Addr) (n c : Nat) (w : World) (hy : Sl w 1 A n c (ivs ys)) (hn : n ≤ 300) :
    Calls Try.prog 18 #[.slice A n c] w fun e w' => ∃ b g, e = .returned (.pointer (some ⟨b, 0, none⟩)) ∧ w.heap.size ≤ b ∧ w.heap.size ≤ g ∧ g < w'.heap.size ∧ RowR w' b g ys ∧ Pu w w' := by
  go_enter Try.func18, Try.ntmps18
  go_wp2_with fail
  refine (rpush_any w.heap.size w.heap.size [] ys A n c _ (.inl ⟨rfl, Blk.at_new _ _ _ rfl⟩) (hy.pu ((Pu.refl w).alloc _)) (by simpa using hn) (fun h0 k off e => ?_)).mono ?_
  · obtain ⟨b, off', e', hlt, _⟩ := hy.2.2 h0
    rw [e] at e'
    injection e' with e'
    injection e' with e1
    omega
  rintro e w1 ⟨rfl, g1, hg1, hR, hF⟩
  go_wp2
  go_ret
  have hP : Pu w w1 := ((Pu.refl w).alloc _).step hF (fun i hi => by rcases hi with e | e <;> exact Nat.le_of_eq e.symm)
  have hs := hP.size
  have hF2 := hF.size
  simp at hF2
  refine ⟨_, g1, rfl, Nat.le_refl _, ?_, ?_, hR, hP⟩
  · rcases hg1 with e | e
    · exact Nat.le_of_eq e.symm
    · have := e.1
      simp at this
      omega
  · rcases hg1 with e | e
    · omega
    · exact e.2
end Go.Proofs.Ytckfnbckoclhpaa
