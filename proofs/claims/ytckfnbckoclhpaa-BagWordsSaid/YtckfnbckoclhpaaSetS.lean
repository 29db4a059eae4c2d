/- Sets of texts: contracts of Of, Items, Has and of the library's functions that they call. -/
import Derived.Test.YtckfnbckoclhpaaSetI2
import Derived.Sort.OwnSorted
set_option linter.unusedVariables false
namespace Go.Proofs.Ytckfnbckoclhpaa
open Go.RowKit Go.Sort

abbrev svs (l : List (List UInt8)) : List Value := l.map encStr
/-- a set of texts: rising, each once -/
def normS (zs : List (List UInt8)) : List (List UInt8) := Lib.compact (zs.mergeSort fun x y => decide (x ≤ y))
theorem normS_rising (zs : List (List UInt8)) : (normS zs).Pairwise (· < ·) := by
  have h : (zs.mergeSort fun x y => decide (x ≤ y)).Pairwise (· ≤ ·) := by
    have := List.pairwise_mergeSort (le := fun x y : List UInt8 => decide (x ≤ y)) (fun a b c h1 h2 => by
      rw [decide_eq_true_eq] at h1 h2 ⊢
      exact List.le_trans h1 h2) (fun a b => by
      have := List.le_total a b
      simpa using this) zs
    exact List.Pairwise.imp_of_mem (fun _ _ h => by simpa using h) this
  exact List.Pairwise.imp_of_mem (fun _ _ ⟨h1, h2⟩ => Std.lt_of_le_of_ne h1 h2) (compact_rising (le := (· ≤ · : List UInt8 → List UInt8 → Prop)) (fun _ _ => List.le_antisymm) List.le_refl _ h)
theorem mem_normS (zs : List (List UInt8)) (x : List UInt8) : x ∈ normS zs ↔ x ∈ zs := by
  unfold normS
  rw [mem_compact, List.mem_mergeSort]
theorem normS_eq (zs ys : List (List UInt8)) (h : ∀ x, x ∈ zs ↔ x ∈ ys) : normS zs = normS ys :=
  rising_ext (lt := (· < · : List UInt8 → List UInt8 → Prop)) (fun a => List.lt_irrefl a) (fun _ _ _ => List.lt_trans) _ _ (normS_rising zs) (normS_rising ys) (fun x => by rw [mem_normS, mem_normS]; exact h x)
theorem svs_notin (zs : List (List UInt8)) (A : Option Addr) (n c : Nat) : ∀ u ∈ svs zs, u ∉ (#[Value.slice A n c]).toList := by
  intro u hu
  rw [List.mem_map] at hu
  obtain ⟨z, _, rfl⟩ := hu
  simp [encStr]
theorem svs_get {zs : List (List UInt8)} {k : Nat} {u : Value} (hk : k < zs.length) (h : (svs zs)[k]? = some u) : u = .string ⟨zs[k].toArray⟩ := by
  rw [List.getElem?_map, List.getElem?_eq_getElem hk] at h
  injection h with h
  exact h.symm

/-- slices.Clone at []string: whatever slice -/
theorem clone_str (A : Option Addr) (n c : Nat) (zs : List (List UInt8)) (w : World) (h : Sl w 1 A n c (svs zs)) (hn : n ≤ 1000000) :
    Calls Try.prog 48 #[.slice A n c] w fun e w' => ∃ A' c', e = .returned (.slice A' n c') ∧ w'.ownsRow w.heap.size 9 1 (.slice A' n c') n (svs zs) ∧ Pu w w' := by
  have hl : zs.length = n := by have := h.1; simpa using this
  rcases Nat.eq_zero_or_pos n with h0 | h0
  · subst h0
    obtain rfl : zs = [] := List.eq_nil_of_length_eq_zero hl
    rcases A with _ | a
    · refine (Try.slices_Clone_string_nil 0 c w).mono ?_
      rintro e w' ⟨rfl, rfl⟩
      exact ⟨none, 0, rfl, World.ownsRow_nil _ _ _ _, Pu.refl _⟩
    · refine (Try.slices_Clone_string_zero a c w).mono ?_
      rintro e w' ⟨v, rfl, hown, hne, hb⟩
      rcases hown.2 with ⟨hv, _⟩ | ⟨g, cap, cur, hv, _⟩
      · exact absurd hv hne
      · subst hv
        exact ⟨_, _, rfl, hown, Pu.of_below hb⟩
  · obtain ⟨b, off, rfl, hlt, hc⟩ := h.2.2 h0
    refine (Try.slices_Clone_string b off n c (zs.map fun l => ⟨l.toArray⟩) w (by simp; omega) (by omega) (fun j hj => ?_)).mono ?_
    · have hj : j < zs.length := by simpa using hj
      have hu : (svs zs)[j]? = some (encStr zs[j]) := by rw [List.getElem?_map, List.getElem?_eq_getElem hj]; rfl
      rw [hc j _ hu, List.getD_eq_getElem?_getD, List.getElem?_map, List.getElem?_eq_getElem hj]
      rfl
    · rintro e w' ⟨v, rfl, hown, hne, hb⟩
      rw [List.take_of_length_le (by simp; omega), List.map_map] at hown
      rcases hown.2 with ⟨hv, _⟩ | ⟨g, cap, cur, hv, _⟩
      · exact absurd hv hne
      · subst hv
        exact ⟨_, _, rfl, hown, Pu.of_below hb⟩

/-- slices.Sort at []string: a row of the call's own -/
theorem sort_str (base : Nat) (A : Option Addr) (n c : Nat) (zs : List (List UInt8)) (w : World) (h : w.ownsRow base 9 1 (.slice A n c) n (svs zs)) (hn : n ≤ 1000000) :
    Calls Try.prog 49 #[.slice A n c] w fun e w' => e = .returned (.tuple #[]) ∧ w'.ownsRow base 9 1 (.slice A n c) n (svs (zs.mergeSort fun x y => decide (x ≤ y))) ∧ Fr (fun k => base ≤ k) w w' := by
  have hl : zs.length = n := by have := h.1; simpa using this
  rcases h.2 with ⟨hv, h0⟩ | ⟨g, cap, cur, hv, hbase, hb, h1, h2, h3, h4⟩
  · injection hv with hA _ _
    subst hA h0
    obtain rfl : zs = [] := List.eq_nil_of_length_eq_zero hl
    refine (Try.slices_Sort_string_none none c w).mono ?_
    rintro e w' ⟨rfl, rfl⟩
    exact ⟨rfl, by simpa using h, Fr.refl _ _⟩
  · injection hv with hA _ hc
    subst hA hc hl
    refine (Try.slices_Sort_string g 0 c zs w (holds_of_block hb (by simpa using h4)) (Array.getElem?_eq_some_iff.1 hb).1 (by omega)).mono ?_
    rintro e w' ⟨rfl, k, os, rfl⟩
    refine ⟨rfl, ownsRow_sorted (by simp) hbase hb h1 h2 h3, ?_⟩
    exact (Fr.of_grown (grownBy_sorted _)).mono (fun k _ e => by injection e with e; omega)

/-- slices.Compact at []string: a row of the call's own; what is handed back is read, not owned any more -/
theorem compact_str (base : Nat) (A : Option Addr) (n c : Nat) (zs : List (List UInt8)) (w : World) (h : w.ownsRow base 9 1 (.slice A n c) n (svs zs)) (hn : n ≤ 1000000) :
    Calls Try.prog 51 #[.slice A n c] w fun e w' => e = .returned (.slice A (Lib.compact zs).length c) ∧ (Lib.compact zs).length ≤ n ∧ n ≤ c ∧ c ≤ maxLen ∧
      w'.ownsRow base 9 1 (.slice A (Lib.compact zs).length c) (Lib.compact zs).length (svs (Lib.compact zs)) ∧ Fr (fun k => base ≤ k) w w' := by
  have hl : zs.length = n := by have := h.1; simpa using this
  have hcl : (Lib.compact zs).length ≤ n := by
    unfold Lib.compact Lib.compactUpTo
    rw [List.length_map]
    exact Nat.le_trans (List.length_filter_le _ _) (by simp [hl])
  rcases h.2 with ⟨hv, h0⟩ | ⟨g, cap, cur, hv, hbase, hb, h1, h2, h3, h4⟩
  · injection hv with hA _ hc
    subst hA h0 hc
    obtain rfl : zs = [] := List.eq_nil_of_length_eq_zero hl
    refine (Try.slices_Compact_string_empty none 0 w).mono ?_
    rintro e w' ⟨rfl, rfl⟩
    exact ⟨rfl, by simp [Lib.compact, Lib.compactUpTo], Nat.le_refl _, by simp [maxLen], by simpa [Lib.compact, Lib.compactUpTo] using h, Fr.refl _ _⟩
  · injection hv with hA _ hc
    subst hA hc hl
    refine (Try.slices_Compact_string g 0 c zs w (holds_of_block hb (by simpa using h4)) (by omega) h1).mono ?_
    rintro e w' ⟨rfl, q, rfl⟩
    have e2 : ∀ d : Array (List UInt8), putRow encStr (Sort.ahead w q) g 0 d = grow (putRow encStr (Sort.ahead w q) g 0 d) #[] := fun d => by simp
    refine ⟨rfl, hcl, h1, h2, ?_, ?_⟩
    · rw [e2]
      have h5 := heap_sorted (os := #[]) (n := q) (Lib.compact zs ++ List.replicate (zs.length - (Lib.compact zs).length) []).toArray hb
      refine ⟨by simp, .inr ⟨g, c, _, rfl, hbase, h5, by omega, h2, by simp [putCells, h3], ?_⟩⟩
      have h6 := take_putCells cur (Lib.compact zs ++ List.replicate (zs.length - (Lib.compact zs).length) []) (by simp; omega)
      rw [Nat.mul_one]
      have h7 := congrArg (List.take (Lib.compact zs).length) h6
      rw [List.take_take, Nat.min_eq_left (by simp)] at h7
      rw [h7, List.map_append, List.take_left' (by simp)]
    · rw [e2]
      exact (Fr.of_grown (grownBy_sorted _)).mono (fun k _ e => by injection e with e; omega)

set_option maxRecDepth 100000 in
/-- slices.Clip at []string -/
theorem clip_str (A : Option Addr) (n c : Nat) (w : World) (hnc : n ≤ c) :
    Calls Try.prog 50 #[.slice A n c] w fun e w' => e = .returned (.slice A n n) ∧ w = w' := by
  go_enter Try.func50, Try.ntmps50
  go_wp2
  go_ret
  exact ⟨rfl, rfl⟩

set_option maxRecDepth 100000 in
/-- bag.Of at int -/
theorem of_str (A : Option Addr) (n c : Nat) (zs : List (List UInt8)) (w : World) (h : Sl w 1 A n c (svs zs)) (hn : n ≤ 1000000) :
    Calls Try.prog 15 #[.slice A n c] w fun e w' => ∃ A' n', e = .returned (.agg #[.slice A' n' n']) ∧ n' ≤ n ∧ Sl w' 1 A' n' n' (svs (normS zs)) ∧ Pu w w' := by
  go_enter Try.func15, Try.ntmps15
  go_wp2_with fail
  have hW := (Pu.refl w).alloc (Obj.cells #[Value.slice none 0 0] 40)
  refine (clone_str A n c zs _ (h.pu hW) hn).mono ?_
  rintro e w1 ⟨A1, c1, rfl, ho1, h1⟩
  have H1 := hW.trans h1
  go_wp2_with fail
  refine (sort_str _ A1 n c1 zs _ ho1 hn).mono ?_
  rintro e w2 ⟨rfl, ho2, h2⟩
  go_wp2_with fail
  refine (compact_str _ A1 n c1 _ _ ho2 hn).mono ?_
  rintro e w3 ⟨rfl, hle, hnc, hcm, ho3, h3⟩
  go_wp2_with fail
  refine (clip_str A1 _ c1 _ (by omega)).mono ?_
  rintro e w4 ⟨rfl, rfl⟩
  have hb : Blk w3 w.heap.size 40 #[.slice none 0 0] := (((Blk.new w _ _).pu h1).fr h2 (by simp)).fr h3 (by simp)
  have hc : w3.cell? ⟨w.heap.size, 0, none⟩ = some (.slice none 0 0) := hb.cell 0
  have hf : w3.frozen? ⟨w.heap.size, 0, none⟩ = false := hb.frozen 0
  have hP : Pu w w3 := (H1.step h2 (by simp; omega)).step h3 (by simp; omega)
  go_wp2_with fail
  refine bodyPost_ret (v := .agg #[.slice A1 (normS zs).length (normS zs).length]) (by simp [results, Try.results15, go_sem, hc, normS]) rfl ⟨A1, _, rfl, hle, ?_, ?_⟩
  · refine (Sl.of_own ho3).clip.fr (Fr.one _ _ _ _) (fun _ b off hA => ?_)
    have := own_ge ho3 b off hA
    simp at this
    omega
  · exact hP.setCell (Nat.le_refl _) _

set_option maxRecDepth 100000 in
theorem items_str (A : Option Addr) (n c : Nat) (zs : List (List UInt8)) (w : World) (h : Sl w 1 A n c (svs zs)) (hn : n ≤ 1000000) :
    Calls Try.prog 16 #[.agg #[.slice A n c]] w fun e w' => ∃ A' c', e = .returned (.slice A' n c') ∧ w'.ownsRow w.heap.size 9 1 (.slice A' n c') n (svs zs) ∧ Pu w w' := by
  go_enter Try.func16, Try.ntmps16
  go_wp2_with fail
  have hW := (Pu.refl w).alloc (Obj.cells #[Value.slice A n c] 40)
  refine (clone_str A n c zs _ (h.pu hW) hn).mono ?_
  rintro e w1 ⟨A1, c1, rfl, ho1, h1⟩
  go_wp2
  go_ret
  exact ⟨A1, c1, rfl, own_base ho1 (by simp), hW.trans h1⟩

theorem take_lt_count (zs : List (List UInt8)) (x : List UInt8) (h : zs.Pairwise (· < ·)) : ∃ k, k ≤ zs.length ∧ (∀ t (ht : t < zs.length), t < k → zs[t] < x) ∧ ∀ t (ht : t < zs.length), k ≤ t → ¬ zs[t] < x := by
  induction zs with
  | nil => exact ⟨0, Nat.le_refl _, fun t ht => by simp at ht, fun t ht => by simp at ht⟩
  | cons z zs ih =>
    rw [List.pairwise_cons] at h
    obtain ⟨k, h0, h1, h2⟩ := ih h.2
    by_cases hz : z < x
    · refine ⟨k + 1, by simp; omega, fun t ht hk => ?_, fun t ht hk => ?_⟩
      · cases t with
        | zero => exact hz
        | succ t => exact h1 t (by simpa using ht) (by omega)
      · cases t with
        | zero => omega
        | succ t => exact h2 t (by simpa using ht) (by omega)
    · refine ⟨0, Nat.zero_le _, fun t ht hk => by omega, fun t ht _ => ?_⟩
      cases t with
      | zero => exact hz
      | succ t => exact fun hlt => hz (List.lt_trans (h.1 _ (List.getElem_mem _)) hlt)

theorem found_iff (zs : List (List UInt8)) (x : List UInt8) (k : Nat) (h0 : k ≤ zs.length) (h1 : ∀ t (ht : t < zs.length), t < k → zs[t] < x) (h2 : ∀ t (ht : t < zs.length), k ≤ t → ¬ zs[t] < x) (hs : zs.Pairwise (· < ·)) :
    (∃ hk : k < zs.length, zs[k] = x) ↔ x ∈ zs := by
  constructor
  · rintro ⟨hk, rfl⟩
    exact List.getElem_mem _
  · intro hx
    obtain ⟨i, hi, rfl⟩ := List.getElem_of_mem hx
    have h3 : ¬ i < k := fun hlt => List.lt_irrefl _ (h1 i hi hlt)
    have h4 : i = k := by
      rcases Nat.lt_or_ge k i with hlt | hge
      · have h5 := List.pairwise_iff_getElem.1 hs k i (by omega) hi hlt
        exact absurd h5 (h2 k (by omega) (Nat.le_refl _))
      · omega
    subst h4
    exact ⟨hi, rfl⟩

theorem search_str (A : Option Addr) (n c : Nat) (zs : List (List UInt8)) (x : List UInt8) (w : World) (h : Sl w 1 A n c (svs zs)) (hn : n ≤ 1000000) (hs : zs.Pairwise (· < ·)) :
    Calls Try.prog 52 #[.slice A n c, .string ⟨x.toArray⟩] w fun e w' => ∃ i : Int, e = .returned (.tuple #[.int .i64 i, .bool (decide (x ∈ zs))]) ∧ Pu w w' := by
  have hl : zs.length = n := by have := h.1; simpa using this
  rcases Nat.eq_zero_or_pos n with h0 | h0
  · subst h0
    obtain rfl : zs = [] := List.eq_nil_of_length_eq_zero hl
    refine (Any2.slices_BinarySearch_string_empty Try.searchStr A c ⟨x.toArray⟩ w).mono ?_
    rintro e w' ⟨rfl, rfl⟩
    exact ⟨0, by simp, Pu.refl _⟩
  · obtain ⟨b, off, rfl, hlt, hc⟩ := h.2.2 h0
    refine (Any2.slices_BinarySearch_string Try.searchStr b off n c (fun j => ⟨(zs.getD j []).toArray⟩) ⟨x.toArray⟩ w (by omega) (fun j hj => ?_)).mono ?_
    · have hu : (svs zs)[j]? = some (encStr zs[j]) := by rw [List.getElem?_map, List.getElem?_eq_getElem (by omega)]; rfl
      rw [hc j _ hu, List.getD_eq_getElem?_getD, List.getElem?_eq_getElem (by omega)]
      rfl
    · rintro e w' ⟨rfl, q, rfl⟩
      obtain ⟨k, k0, k1, k2⟩ := take_lt_count zs x hs
      have hget : ∀ t (ht : t < zs.length), zs.getD t [] = zs[t] := fun t ht => by rw [List.getD_eq_getElem?_getD, List.getElem?_eq_getElem ht]; rfl
      have hless : ∀ t, t < n → (Op.bytesLess (ByteArray.mk (zs.getD t []).toArray).toList (ByteArray.mk x.toArray).toList = decide (zs.getD t [] < x)) := by
        intro t _
        rw [ByteArray.toList_mk, ByteArray.toList_mk, bytesLess_eq]
      have hgo : Lib.bsGo (fun t => Op.bytesLess (ByteArray.mk (zs.getD t []).toArray).toList (ByteArray.mk x.toArray).toList) n 0 n = k := by
        have hg : ∀ (f g : Nat → Bool), (∀ t, t < n → f t = g t) → ∀ fuel lo hi, hi ≤ n → Lib.bsGo f fuel lo hi = Lib.bsGo g fuel lo hi := by
          intro f g hfg fuel
          induction fuel with
          | zero => intro lo hi _; rfl
          | succ fuel ih =>
            intro lo hi hhi
            unfold Lib.bsGo
            by_cases hlh : lo < hi
            · rw [if_pos hlh, if_pos hlh, hfg _ (by omega)]
              split
              · exact ih _ _ hhi
              · exact ih _ _ (by omega)
            · rw [if_neg hlh, if_neg hlh]
        rw [hg _ (fun t => decide (t < k)) (fun t ht => by
          rw [hless t ht, hget t (by omega)]
          by_cases htk : t < k
          · simp [htk, k1 t (by omega) htk]
          · simp [htk, k2 t (by omega) (by omega)]) n 0 n (Nat.le_refl _)]
        exact Lib.bsGo_spec _ k (fun t ht => by simp [ht]) (fun t ht => by simp; omega) n 0 n (by omega) (Nat.zero_le _) (by omega)
      refine ⟨k, ?_, (Pu.refl w).drewN q⟩
      rw [hgo]
      have hf := found_iff zs x k k0 k1 k2 hs
      have hi : (k < n ∧ (⟨(zs.getD k []).toArray⟩ : ByteArray) = ⟨x.toArray⟩) ↔ x ∈ zs := by
        rw [← hf]
        constructor
        · rintro ⟨h3, h4⟩
          refine ⟨by omega, ?_⟩
          rw [← hget k (by omega)]
          injection h4 with h4
          have := congrArg Array.toList h4
          simpa using this
        · rintro ⟨h3, h4⟩
          exact ⟨by omega, by rw [hget k h3, h4]⟩
      rw [show decide (k < n ∧ (⟨(zs.getD k []).toArray⟩ : ByteArray) = ⟨x.toArray⟩) = decide (x ∈ zs) from by rw [Bool.eq_iff_iff, decide_eq_true_eq, decide_eq_true_eq]; exact hi]

set_option maxRecDepth 100000 in
theorem has_str (A : Option Addr) (n c : Nat) (zs : List (List UInt8)) (x : List UInt8) (w : World) (h : Sl w 1 A n c (svs zs)) (hn : n ≤ 1000000) (hs : zs.Pairwise (· < ·)) (hx : x ∈ zs) :
    Calls Try.prog 17 #[.agg #[.slice A n c], .string ⟨x.toArray⟩] w fun e w' => e = .returned (.bool true) ∧ Pu w w' := by
  have hW := (Pu.refl w).alloc (Obj.cells #[Value.slice A n c] 40)
  have hse := search_str A n c zs x _ (h.pu hW) hn hs
  have Hse := Lib.hid hse
  clear hse
  have hv : decide (x ∈ zs) = true := by simp [hx]
  have Hv := Lib.hid hv
  clear hv hx
  go_enter Try.func17, Try.ntmps17
  go_wp2_with fail
  refine (Calls.mono Hse.out) ?_
  rintro e w1 ⟨i, rfl, h1⟩
  rw [Hv.out]
  go_wp2
  go_ret
  exact ⟨rfl, hW.trans h1⟩
end Go.Proofs.Ytckfnbckoclhpaa
