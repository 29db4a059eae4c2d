/- A slice of int of one's own that may begin behind its block's begin: cut from both ends, and appended to. -/
import Derived.Test.YtckfnbckoclhpaaCls2
import Derived.ArgAppend
set_option linter.unusedVariables false
namespace Go.Proofs.Ytckfnbckoclhpaa
open Go.RowKit

/-- '.slice A n c', not below base, reads as l -/
def OffS (w : World) (base : Nat) (A : Option Addr) (n c : Nat) (l : List Int) : Prop :=
  l.length = n ∧ n ≤ c ∧ c ≤ maxLen ∧ (∀ x, A = some x → base ≤ x.block ∧ x.spot = none ∧ x.block < w.heap.size) ∧
    (0 < c → ∃ h off ds, A = some ⟨h, off, none⟩ ∧ Blk w h 3 ds ∧ off + c ≤ ds.size ∧ ∀ i x, l[i]? = some x → ds[off + i]? = some (.int .i64 x))
section
variable {w w' : World} {base n c : Nat} {A : Option Addr} {l : List Int}
theorem OffS.of_own (h : w.ownsRow base 3 1 (.slice A n c) n (ivs l)) : OffS w base A n c l := by
  have hl : l.length = n := by have := h.1; simpa using this
  obtain ⟨h1, h2⟩ := own_le h
  refine ⟨hl, h1, h2, ?_, fun h0 => ?_⟩
  · intro x e
    rcases h.2 with ⟨hv, _⟩ | ⟨g, cap, cur, hv, hb, hbk, _⟩
    · injection hv with hA
      rw [hA] at e
      cases e
    · injection hv with hA
      rw [hA] at e
      injection e with e
      subst e
      exact ⟨hb, rfl, Blk.lt hbk⟩
  · rcases h.2 with ⟨hv, h9⟩ | ⟨g, cap, cur, hv, hb, hbk, h3, h4, h5, h6⟩
    · injection hv with _ _ hc
      omega
    · injection hv with hA _ hc
      subst hA hc
      refine ⟨g, 0, cur, rfl, hbk, by omega, fun i x hi => ?_⟩
      have hin := (List.getElem?_eq_some_iff.1 hi).1
      have h7 : (cur.toList.take (n * 1))[i]? = (ivs l)[i]? := by rw [h6]
      rw [List.getElem?_take_of_lt (by omega), Array.getElem?_toList, ivs, List.getElem?_map, hi] at h7
      rw [Nat.zero_add]
      exact h7
theorem OffS.sl (h : OffS w base A n c l) : Sl w 1 A n c (ivs l) := by
  obtain ⟨h1, h2, h3, h4, h5⟩ := h
  refine ⟨by simpa using h1, h2, fun h0 => ?_⟩
  obtain ⟨g, off, ds, hA, hb, hs, hr⟩ := h5 (by omega)
  refine ⟨g, off, hA, hb.lt, fun j u hu => ?_⟩
  rw [ivs, List.getElem?_map] at hu
  cases hj : l[j]? with
  | none => rw [hj] at hu; cases hu
  | some x =>
    rw [hj] at hu
    injection hu with hu
    rw [hb.cell, hr j x hj, ← hu]
theorem OffS.fr {S : Nat → Prop} (h : OffS w base A n c l) (hf : Fr S w w') (hs : ∀ x, A = some x → ¬ S x.block) : OffS w' base A n c l := by
  obtain ⟨h1, h2, h3, h4, h5⟩ := h
  refine ⟨h1, h2, h3, fun x e => ⟨(h4 x e).1, (h4 x e).2.1, Nat.lt_of_lt_of_le (h4 x e).2.2 hf.size⟩, fun h0 => ?_⟩
  obtain ⟨g, off, ds, hA, hb, hr⟩ := h5 h0
  exact ⟨g, off, ds, hA, hb.fr hf (hs _ hA), hr⟩
theorem OffS.pu (h : OffS w base A n c l) (hf : Pu w w') : OffS w' base A n c l := h.fr hf (fun _ _ x => x)
theorem OffS.tail {x : Int} {t : List Int} (h : OffS w base A n c (x :: t)) : ∃ A', sliced A 1 n c 1 = .slice A' (n - 1) (c - 1) ∧ OffS w base A' (n - 1) (c - 1) t ∧ ∀ y, A' = some y → ∃ z, A = some z ∧ z.block = y.block := by
  obtain ⟨h1, h2, h3, h4, h5⟩ := h
  simp only [List.length_cons] at h1
  obtain ⟨g, off, ds, rfl, hb, hs, hr⟩ := h5 (by omega)
  obtain ⟨hg, _, hg2⟩ := h4 _ rfl
  by_cases hc : c = 1
  · refine ⟨some ⟨g, off, none⟩, by simp [sliced, hc], ⟨by omega, by omega, by omega, h4, fun h0 => by omega⟩, fun y e => ⟨_, rfl, by injection e with e; rw [← e]⟩⟩
  · refine ⟨some ⟨g, off + 1, none⟩, by simp [sliced, hc, Addr.add], ⟨by omega, by omega, by omega, ?_, fun _ => ⟨g, off + 1, ds, rfl, hb, by omega, fun i y hi => ?_⟩⟩, fun y e => ⟨_, rfl, by injection e with e; rw [← e]⟩⟩
    · intro y e
      injection e with e
      subst e
      exact ⟨hg, rfl, hg2⟩
    · rw [show off + 1 + i = off + (i + 1) by omega]
      exact hr (i + 1) y (by simpa using hi)
theorem OffS.init {x : Int} {t : List Int} (h : OffS w base A n c (t ++ [x])) : OffS w base A (n - 1) c t := by
  obtain ⟨h1, h2, h3, h4, h5⟩ := h
  simp only [List.length_append, List.length_cons, List.length_nil] at h1
  refine ⟨by omega, by omega, h3, h4, fun h0 => ?_⟩
  obtain ⟨g, off, ds, hA, hb, hs, hr⟩ := h5 h0
  refine ⟨g, off, ds, hA, hb, hs, fun i y hi => hr i y ?_⟩
  rw [List.getElem?_append_left (List.getElem?_eq_some_iff.1 hi).1]
  exact hi
end

theorem setCells_blk (g : Nat) (t : TypeId) : ∀ (w : World) (us : List Value) (off : Nat) (ds : Array Value), Blk w g t ds → ∃ ds', Blk (w.setCells g off us) g t ds' ∧ ds'.size = ds.size ∧ (∀ i, i < off → ds'[i]? = ds[i]?) ∧ (off + us.length ≤ ds.size → ∀ j u, us[j]? = some u → ds'[off + j]? = some u) ∧ Fr (fun k => k = g) w (w.setCells g off us)
  | w, [], off, ds, h => ⟨ds, h, rfl, fun _ _ => rfl, fun _ j u hu => by simp at hu, Fr.refl _ _⟩
  | w, v :: us, off, ds, h => by
    obtain ⟨ds', h1, h2, h3, h4, h5⟩ := setCells_blk g t (w.setCell ⟨g, off, none⟩ v) us (off + 1) _ (h.set_ off v)
    refine ⟨ds', h1, by rw [h2, Array.size_setIfInBounds], fun i hi => ?_, fun hle j u hu => ?_, (Fr.one w g off v).trans h5⟩
    · rw [h3 i (by omega), Array.getElem?_setIfInBounds_ne (by omega)]
    · simp only [List.length_cons] at hle
      cases j with
      | zero =>
        simp at hu
        subst hu
        rw [Nat.add_zero, h3 off (by omega), Array.getElem?_setIfInBounds_self_of_lt (by omega)]
      | succ j =>
        rw [show off + (j + 1) = off + 1 + j by omega]
        exact h4 (by rw [Array.size_setIfInBounds]; omega) j u (by simpa using hu)

section
variable {P : Program} {w : World} {ops : Array Oper} {rest : List Oper} {o : Oper} {a : Act} {Q : Exit → Act → World → Prop}
/-- 'l = append(l, x, y)': the numbers laid in a new block just now -/
theorem wpList_offs {t : TypeId} (E : ElemI P t 3 (.int .i64 0) 1 8) (hgd : o.guard = none) (s x : Operand)
    (ho : o.op = .call { callee := .builtin .append, args := #[s, x], argTypes := #[t, t] })
    {base n c m : Nat} {A : Option Addr} {l : List Int} (ys : List Int) (us : Array Value) (hus : us.toList = ivs ys) (hm : ys.length = m) (hm0 : 0 < m)
    (hs : a.eval s = .slice A n c) (hx : a.eval x = .slice (some ⟨w.heap.size, 0, none⟩) m m)
    (hO : OffS w base A n c l) (h63 : n + m ≤ maxLen) (hbytes : (n + m) * 8 ≤ 140737488355328) (hbase : base ≤ w.heap.size)
    (h : ∀ A' c' w', OffS w' base A' (n + m) c' (l ++ ys) → Fr (fun k => ∃ z, A = some z ∧ z.block = k) w w' → (∀ y, A' = some y → (∃ z, A = some z ∧ z.block = y.block) ∨ w.heap.size ≤ y.block) → wpList P ops Q rest (a.put o.dst (.slice A' (n + m) c')) w') :
    wpList P ops Q (o :: rest) a (w.alloc (.cells us 3)) := by
  obtain ⟨i, hi, hz, hsz, hby⟩ := info_parts E.info
  have hO2 := hO.pu ((Pu.refl w).alloc (.cells us 3))
  have hnl : (ivs ys).length = m * 1 := by simpa using hm
  have hone : ∀ u ∈ ivs ys, u.oneCell' = true := fun u hu => by
    simp only [ivs, List.mem_map] at hu
    obtain ⟨z, _, rfl⟩ := hu
    rfl
  have hnews : ∀ j u, (ivs ys)[j]? = some u → (w.alloc (.cells us 3)).cell? ((⟨w.heap.size, 0, none⟩ : Addr).add j) = some u := fun j u hu => by
    rw [add_zero_, World.cell?_alloc_new, ← Array.getElem?_toList, hus]
    exact hu
  have hls : (ivs l).length = n * 1 := by simpa using hO.1
  by_cases hroom : n + m ≤ c ∧ 0 < c
  · obtain ⟨hroom, hc0⟩ := hroom
    obtain ⟨g, off, ds, rfl, hb, hsd, hr⟩ := hO2.2.2.2.2 hc0
    obtain ⟨hg1, _, hg2⟩ := hO.2.2.2.1 _ rfl
    refine wpList_append_arg _ hgd s x t ho 3 i _ 1 8 E.under hi hz hsz hby E.zs E.pos g off n c (ivs l) hs hls (fun j u hu => ?_) ⟨w.heap.size, 0, none⟩ m m (ivs ys) hx hnl hnews hone (fun _ j hj => ⟨?_, hb.frozen _⟩) h63 hbytes (fun _ => ?_) (fun hlt => by omega)
    · rw [ivs, List.getElem?_map] at hu
      cases hj : l[j]? with
      | none => rw [hj] at hu; cases hu
      | some z =>
        rw [hj] at hu
        injection hu with hu
        rw [hb.cell, hr j z hj, ← hu]
    · rw [hb.cell, Array.getElem?_eq_getElem (by omega)]
      rfl
    · obtain ⟨ds', k1, k2, k3, k4, k5⟩ := setCells_blk g 3 _ (ivs ys) (off + n * 1) ds hb
      refine h _ _ _ ⟨by simp [hO.1, hm], hroom, hO.2.2.1, fun y e => ?_, fun _ => ⟨g, off, ds', rfl, k1, by omega, fun j z hj => ?_⟩⟩ ?_ (fun y e => .inl ⟨_, rfl, by injection e with e; rw [← e]⟩)
      · injection e with e
        subst e
        exact ⟨hg1, rfl, k1.lt⟩
      · rcases Nat.lt_or_ge j l.length with hjl | hjl
        · have := hO.1
          rw [List.getElem?_append_left hjl] at hj
          rw [k3 (off + j) (by omega), hr j z hj]
        · have := hO.1
          rw [List.getElem?_append_right hjl] at hj
          have := k4 (by omega) (j - l.length) (.int .i64 z) (by rw [ivs, List.getElem?_map, hj]; rfl)
          rw [show off + j = off + n * 1 + (j - l.length) by omega]
          exact this
      · exact (((Pu.refl w).alloc _).fr (S := fun k => ∃ z, some (⟨g, off, none⟩ : Addr) = some z ∧ z.block = k)).step k5 (fun k hk => .inl ⟨_, rfl, hk.symm⟩)
  · have hA : A = none → n = 0 ∧ c = 0 := fun e => by
      rcases Nat.eq_zero_or_pos c with h0 | h0
      · have := hO.2.1
        omega
      · obtain ⟨_, _, _, e2, _⟩ := hO.2.2.2.2 h0
        rw [e] at e2
        cases e2
    refine wpList_append_grows _ hgd s x t ho 3 i _ 1 8 E.under hi hz hsz hby E.zs E.pos A n c (ivs l) hs hA hls (fun b e j u hu => ?_) ⟨w.heap.size, 0, none⟩ m m (ivs ys) hx hnl hnews hone (by have := hO.2.1; omega) h63 hbytes ?_
    · have hj := (List.getElem?_eq_some_iff.1 hu).1
      have := hO.2.1
      obtain ⟨g, off, e2, _, hcell⟩ := hO2.sl.2.2 (by omega)
      rw [e] at e2
      injection e2 with e2
      subst e2
      have hk := hcell j u hu
      unfold Addr.add
      split
      · rename_i e0; subst e0; exact hk
      · exact hk
    · intro v' w' ho' hg
      obtain ⟨A', c', rfl⟩ := own_shape ho'
      rw [show ivs l ++ ivs ys = ivs (l ++ ys) by simp [ivs]] at ho'
      have hO3 := OffS.of_own ho'
      refine h A' c' w' ⟨hO3.1, hO3.2.1, hO3.2.2.1, fun y e => ⟨?_, (hO3.2.2.2.1 y e).2⟩, hO3.2.2.2.2⟩ ?_ (fun y e => .inr ?_)
      · have := (hO3.2.2.2.1 y e).1
        simp at this
        omega
      · exact (((Pu.refl w).alloc _).fr (S := fun k => ∃ z, A = some z ∧ z.block = k)).step (Fr.of_grown hg) (fun k hk => by cases hk)
      · have := (hO3.2.2.2.1 y e).1
        simp at this
        omega
end
end Go.Proofs.Ytckfnbckoclhpaa
