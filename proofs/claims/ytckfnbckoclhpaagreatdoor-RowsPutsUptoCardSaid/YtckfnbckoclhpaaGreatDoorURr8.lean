/- The law's lines, as an argument hands them in. -/
import Derived.Test.YtckfnbckoclhpaaGreatDoorUArgSlice
import Derived.Test.YtckfnbckoclhpaaGreatDoorE27
set_option linter.unusedVariables false
namespace Go.Proofs.YtckfnbckoclhpaaGreatDoor
open Go.ChangeShapes Go.WideShapes Go.ChangeAt Go.RowKit

theorem wf_i64 {m : Int} (h : (Lit.int .i64 m).wf = true) : -9223372036854775808 ≤ m ∧ m ≤ 9223372036854775807 := by
  have h1 : (decide (IntKind.i64.min ≤ m) && decide (m ≤ IntKind.i64.max)) = true := h
  simp only [Bool.and_eq_true, decide_eq_true_iff] at h1
  exact ⟨h1.1, h1.2⟩
/-- a list out of what there is at each place -/
theorem pick {α : Type} {P : Nat → α → Prop} {n : Nat} (h : ∀ i, i < n → ∃ x, P i x) : ∃ L : List α, L.length = n ∧ ∀ i x, L[i]? = some x → P i x := by
  refine ⟨List.ofFn (n := n) fun i => (h i.1 i.2).choose, by simp, fun i o ho => ?_⟩
  rw [List.getElem?_ofFn] at ho
  split at ho
  · rename_i hi
    injection ho with ho
    subst ho
    exact (h i hi).choose_spec
  · cases ho
/-- a slice of elements of k cells, out of the elements' cells -/
theorem sl_of_elems {α : Type} {vc : α → List Value} {w : World} {k n c : Nat} {x : Addr} {L : List α} (hvc : ∀ p, (vc p).length = k) (hk : 0 < k) (hL : L.length = n) (hc : n ≤ c) (h : ∀ i q, L[i]? = some q → ∀ t u, (vc q)[t]? = some u → w.cell? (x.add (i * k + t)) = some u) : Sl w k (some x) n c (cat vc L) := by
  refine sl_of_add (by rw [cat_len hvc, hL]) hc hk (fun j u hu => ?_)
  have hj := (List.getElem?_eq_some_iff.1 hu).1
  rw [cat_len hvc, hL] at hj
  have hd : j / k < L.length := by rw [hL]; exact Nat.div_lt_of_lt_mul (by rw [Nat.mul_comm]; exact hj)
  have hq : L[j / k]? = some L[j / k] := List.getElem?_eq_getElem hd
  have hm := Nat.mod_lt j hk
  have h1 := cat_get hvc hq (j % k) hm
  have e : j / k * k + j % k = j := by rw [Nat.mul_comm]; exact Nat.div_add_mod j k
  rw [e, hu] at h1
  have := h (j / k) _ hq (j % k) u h1.symm
  rwa [e] at this
section
variable {H : Type} {enc : TypeId × Value → H} {w : World} {base : Nat} {spare : Nat → Bool} {held : Bool}
theorem open_parts {fuel : Nat} {cs : List Value} {x : DataW H × List MemPlace} (h : DataW.trod enc Tryz.prog w base spare held fuel 47 cs = some x) :
    ∃ A n c ps, cs = [.slice A n c] ∧ n ≤ c ∧ ps.length = n ∧ Sl w 2 A n c (cat partCells ps) ∧ PartsOk ps := by
  rcases open_slice_fields Tryz.underlying47 Tryz.underlying113 (by kernel_rfl) (by kernel_rfl) h with ⟨rfl, _⟩ | ⟨a, n, c, m, D, Pl, rfl, _, hl, hm, hmm, _, hcell⟩
  · exact ⟨none, 0, 0, [], rfl, Nat.le_refl _, rfl, Sl.nil _ _ _ _, ⟨fun p hp => (by cases hp), by decide⟩⟩
  · have hnm : n ≤ m := by
      rw [hmm]
      split <;> omega
    have key : ∀ i, i < n → ∃ p : Key × Int, (w.cell? (a.add (i * 2)) = some (.string ⟨p.1.toArray⟩) ∧ w.cell? (a.add (i * 2 + 1)) = some (.int .i64 p.2)) ∧ (-9223372036854775808 ≤ p.2 ∧ p.2 ≤ 9223372036854775807) ∧ p.1.length ≤ 9223372036854775807 := by
      intro i hi
      obtain ⟨ys, k, _, _, _, hj⟩ := hcell i (by omega)
      obtain ⟨v0, y0, c0, _, t0⟩ := hj 0 _ rfl
      obtain ⟨v1, y1, c1, _, t1⟩ := hj 1 _ rfl
      obtain ⟨s, e0, _, hs⟩ := DataW.trod_string Tryz.underlying9 t0
      obtain ⟨z1, e1, _, hz⟩ := DataW.trod_int Tryz.underlying3 t1
      simp at e0 e1
      subst e0 e1
      refine ⟨(s.data.toList, z1), ⟨?_, by simpa using c1⟩, wf_i64 hz, ?_⟩
      · have e : (⟨s.data.toList.toArray⟩ : ByteArray) = s := by cases s; rfl
        rw [e]
        simpa using c0
      · have : s.data.toList.length = s.size := Array.length_toList
        show s.data.toList.length ≤ _
        have h2 : s.size ≤ 9223372036854775807 := hs
        omega
    obtain ⟨ps, hlen, hps⟩ := pick key
    refine ⟨some a, n, c, ps, rfl, hl, hlen, sl_of_elems partCells_len (by decide) hlen hl (fun i q hq t u hu => ?_), ⟨fun p hp => ?_, ?_⟩⟩
    · obtain ⟨⟨h0, h1⟩, _⟩ := hps i q hq
      match t, hu with
      | 0, hu =>
        have e : u = .string ⟨q.1.toArray⟩ := (Option.some.inj hu).symm
        rw [e]
        exact h0
      | 1, hu =>
        have e : u = .int .i64 q.2 := (Option.some.inj hu).symm
        rw [e]
        exact h1
      | t + 2, hu => cases hu
    · obtain ⟨i, hi⟩ := List.getElem?_of_mem hp
      exact (hps i p hi).2
    · have h2 : c ≤ 9223372036854775807 := hm
      omega
set_option maxRecDepth 100000 in
/-- an argument that is a slice of lines -/
theorem open_lines {fuel : Nat} {tL tS : TypeId} {cs : List Value} {x : DataW H × List MemPlace} {t : TypeId} (ht : Tryz.prog.underlying t = some (.slice tL))
    {f0 f1 g0 g1 : Field} (hL : Tryz.prog.underlying tL = some (.struct #[f0, f1])) (hf0 : f0.type = tS ∧ f0.offset = 0) (hf1 : f1.type = 4 ∧ f1.offset = 2) (hcL : Tryz.prog.cellsOf tL = 3)
    (hS : Tryz.prog.underlying tS = some (.struct #[g0, g1])) (hg0 : g0.type = 47 ∧ g0.offset = 0) (hg1 : g1.type = 3 ∧ g1.offset = 1) (hcS : Tryz.prog.cellsOf tS = 2)
    (h : DataW.trod enc Tryz.prog w base spare held fuel t cs = some x) :
    ∃ A n c Q ls, cs = [.slice A n c] ∧ n ≤ c ∧ c ≤ maxLen ∧ SlL w A n c Q ∧ HoldL w Q ls := by
  rcases Go.Deep.open_slice ht h with ⟨rfl, _⟩ | ⟨a, n, c, m, k, D, Pl, rfl, _, hl, hm, hmm, _, hcell⟩
  · exact ⟨none, 0, 0, [], [], rfl, Nat.le_refl _, Nat.zero_le _, Sl.nil _ _ _ _, ⟨rfl, fun i q l hq => by simp at hq⟩⟩
  · have hnm : n ≤ m := by
      rw [hmm]
      split <;> omega
    have key : ∀ i, i < n → ∃ ql : RawL × LineM, (∀ t u, (ql.1.cells)[t]? = some u → w.cell? (a.add (i * 3 + t)) = some u) ∧ LineIs w ql.1 ql.2 := by
      intro i hi
      obtain ⟨cs', hcs, htr⟩ := hcell i (by omega)
      rw [hcL] at hcs
      obtain ⟨_, hlen, hat⟩ := World.cells?_some hcs
      obtain ⟨xs, k1, _, _, _, hxl, hfs⟩ := DataW.trod_struct hL htr
      have hx0 := hfs 0 f0 rfl
      have hx1 := hfs 1 f1 rfl
      rw [hf0.1, hf0.2, hcS, List.drop_zero] at hx0
      have hcb : Tryz.prog.cellsOf 4 = 1 := by kernel_rfl
      rw [hf1.1, hf1.2, hcb] at hx1
      have hxs : xs.length = 2 := hxl
      obtain ⟨y0, hy0⟩ : ∃ y, xs[0]? = some y := ⟨_, List.getElem?_eq_getElem (by omega)⟩
      obtain ⟨y1, hy1⟩ : ∃ y, xs[1]? = some y := ⟨_, List.getElem?_eq_getElem (by omega)⟩
      rw [hy0] at hx0
      rw [hy1] at hx1
      obtain ⟨c0, c1, c2, rfl⟩ : ∃ c0 c1 c2, cs' = [c0, c1, c2] := by
        match cs', hlen with
        | [c0, c1, c2], _ => exact ⟨c0, c1, c2, rfl⟩
      have hcp : Tryz.prog.cellsOf 47 = 1 := by kernel_rfl
      have hci : Tryz.prog.cellsOf 3 = 1 := by kernel_rfl
      obtain ⟨zs, k2, _, _, _, hzl, hgs⟩ := DataW.trod_struct hS hx0
      have hz0 := hgs 0 g0 rfl
      have hz1 := hgs 1 g1 rfl
      rw [hg0.1, hg0.2, hcp, List.drop_zero] at hz0
      rw [hg1.1, hg1.2, hci] at hz1
      have hzs : zs.length = 2 := hzl
      obtain ⟨u0, hu0⟩ : ∃ y, zs[0]? = some y := ⟨_, List.getElem?_eq_getElem (by omega)⟩
      obtain ⟨u1, hu1⟩ : ∃ y, zs[1]? = some y := ⟨_, List.getElem?_eq_getElem (by omega)⟩
      rw [hu0] at hz0
      rw [hu1] at hz1
      obtain ⟨A, np, cp, ps, e0, hnc, hpl, hsl, hok⟩ := open_parts hz0
      obtain ⟨z, e1, _, hwz⟩ := DataW.trod_int Tryz.underlying3 hz1
      obtain ⟨b, e2, _⟩ := DataW.trod_bool Tryz.underlying4 hx1
      simp at e0 e1 e2
      subst e0 e1 e2
      have hw := wf_i64 hwz
      refine ⟨(⟨A, np, cp, z, b⟩, ⟨ps, z, b⟩), fun t u hu => ?_, ⟨rfl, rfl, hpl.symm, hsl, hw.1, hw.2, hok⟩⟩
      have ht3 : t < 3 := (List.getElem?_eq_some_iff.1 hu).1
      rw [← Go.Deep.add_add, hat t ht3]
      exact hu
    obtain ⟨R, hlen, hR⟩ := pick key
    refine ⟨some a, n, c, R.map (·.1), R.map (·.2), rfl, hl, hm, sl_of_elems RawL.cells_len (by decide) (by simpa using hlen) hl (fun i q hq t u hu => ?_), ⟨by simp, fun i q l hq hl' => ?_⟩⟩
    · rw [List.getElem?_map] at hq
      cases hr : R[i]? with
      | none => rw [hr] at hq; cases hq
      | some ql =>
        rw [hr] at hq
        have e : ql.1 = q := Option.some.inj hq
        rw [← e] at hu
        exact (hR i ql hr).1 t u hu
    · rw [List.getElem?_map] at hq hl'
      cases hr : R[i]? with
      | none => rw [hr] at hq; cases hq
      | some ql =>
        rw [hr] at hq hl'
        have e : ql.1 = q := Option.some.inj hq
        have e2 : ql.2 = l := Option.some.inj hl'
        rw [← e, ← e2]
        exact (hR i ql hr).2
theorem arg_lines16 {a : Option Addr} {n c : Nat} {d : DataW H} {p : List MemPlace} (h : DataW.Trod enc Tryz.prog w base spare held 22 (.slice a n c) d p) :
    n ≤ c ∧ c ≤ maxLen ∧ ∃ Q ls, SlL w a n c Q ∧ HoldL w Q ls := by
  obtain ⟨fuel, hf⟩ := h
  obtain ⟨A, n', c', Q, ls, e, h1, h2, h3, h4⟩ := open_lines Tryz.underlying22 Tryz.underlying89 ⟨rfl, rfl⟩ ⟨rfl, rfl⟩ (by kernel_rfl) Tryz.underlying49 ⟨rfl, rfl⟩ ⟨rfl, rfl⟩ (by kernel_rfl) hf
  simp [Value.cells] at e
  obtain ⟨rfl, rfl, rfl⟩ := e
  exact ⟨h1, h2, Q, ls, h3, h4⟩
end
end Go.Proofs.YtckfnbckoclhpaaGreatDoor
