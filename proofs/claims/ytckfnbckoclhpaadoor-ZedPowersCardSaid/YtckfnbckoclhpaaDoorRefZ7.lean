/- The document's numbers: Mul. -/
import Derived.Test.YtckfnbckoclhpaaDoorRefZ6
import Derived.Laws.MakeOwn
set_option linter.unusedVariables false
namespace Go.Proofs.YtckfnbckoclhpaaDoor
open Go.RowKit

/-- block g is just the ints o -/
def DA (w : World) (g : Nat) (o : List Nat) : Prop := Blk w g 3 (dws o).toArray
section
variable {w w' : World} {g : Nat} {o : List Nat}
theorem DA.lt (h : DA w g o) : g < w.heap.size := Blk.lt h
theorem DA.cell (h : DA w g o) {j x : Nat} (hj : o[j]? = some x) : w.cell? ⟨g, j, none⟩ = some (.int .i64 (x : Int)) := by
  rw [Blk.cell h j, List.getElem?_toArray, List.getElem?_map, hj]
  rfl
theorem DA.frozen (h : DA w g o) (j : Nat) : w.frozen? ⟨g, j, none⟩ = false := Blk.frozen h j
theorem DA.set_ (h : DA w g o) (j y : Nat) : DA (w.setCell ⟨g, j, none⟩ (.int .i64 (y : Int))) g (o.set j y) := by
  have := Blk.set_ h j (.int .i64 (y : Int))
  have e : (dws o).toArray.setIfInBounds j (.int .i64 (y : Int)) = (dws (o.set j y)).toArray := by simp [List.map_set]
  rw [e] at this
  exact this
theorem DA.pu (h : DA w g o) (hf : Pu w w') : DA w' g o := Blk.pu h hf
theorem DA.drew (h : DA w g o) : DA w.drew g o := Blk.drew h
theorem DA.sl (h : DA w g o) {n c : Nat} (hn : n = o.length) (hc : n ≤ c) : Sl w 1 (some ⟨g, 0, none⟩) n c (dws o) := by
  refine ⟨by simp; omega, hc, fun _ => ⟨g, 0, rfl, h.lt, fun j u hu => ?_⟩⟩
  rw [List.getElem?_map] at hu
  cases hj : o[j]? with
  | none => rw [hj] at hu; cases hu
  | some x =>
    rw [hj] at hu
    injection hu with hu
    rw [Nat.zero_add, h.cell hj, ← hu]
theorem DA.at_ (h : DA w g o) : IntAt w (some ⟨g, 0, none⟩) := fun b off e => by
  injection e with e
  injection e with e1 _
  subst e1
  exact ⟨_, _, h⟩
end
theorem madeCells_dws (n : Nat) : madeCells (Value.int .i64 0).cells n = Array.replicate n (.int .i64 0) := by
  apply Array.ext
  · simp [madeCells]
  · intro i h1 h2
    simp [madeCells, Value.cells, Nat.mod_one]
/-- make([]int, n) -/
theorem run_make_ints (n : Nat) (hn : n ≤ 4000000) (w : World) :
    (Instr.makeSlice 37 (.int .i64 (n : Int)) (.int .i64 (n : Int))).run Tryd.prog w = .ok (.slice (some ⟨w.heap.size, 0, none⟩) n n) (w.alloc (.cells (Array.replicate n (.int .i64 0)) 3)) := by
  obtain ⟨i, hi, hz, hsz, hby⟩ := info_parts eiInt.info
  have hr := run_make (P := Tryd.prog) w 37 3 i _ eiInt.under hi hz .i64 .i64 n n (by omega) (by omega) (by rw [hby]; omega) (by omega)
  simp only [Int.toNat_natCast] at hr
  rw [hsz, Nat.mul_one, madeCells_dws] at hr
  exact hr
theorem DA.made (w : World) (m : Nat) : DA (w.alloc (.cells (Array.replicate m (.int .i64 0)) 3)) w.heap.size (List.replicate m 0) := by
  have e : (dws (List.replicate m 0)).toArray = Array.replicate m (.int .i64 0) := by simp
  unfold DA
  rw [e]
  exact Blk.new w _ _

/-- every place is at most K -/
def Most (K : Nat) (l : List Nat) : Prop := ∀ x ∈ l, x ≤ K
theorem Most.set {K : Nat} {l : List Nat} {j y : Nat} (h : Most K l) (hy : y ≤ K) : Most K (l.set j y) := by
  intro x hx
  rcases List.mem_or_eq_of_mem_set hx with h1 | h1
  · exact h x h1
  · rw [h1]
    exact hy

set_option maxHeartbeats 4000000 in
set_option maxRecDepth 100000 in
theorem rmul_any (v1 v2 : Value) (z1 z2 : Int) (w : World) (h1 : RZ w v1 z1) (h2 : RZ w v2 z2) (b1 : z1.natAbs < 10 ^ 200) (b2 : z2.natAbs < 10 ^ 200) :
    Calls Tryd.prog 31 #[v1, v2] w fun e w' => ∃ v', e = .returned v' ∧ RZ w' v' (z1 * z2) ∧ Pu w w' := by
  obtain ⟨A1, n1, c1, l1, rfl, hs1, hb1, ht1, hv1, hc1, hI1⟩ := h1
  obtain ⟨A2, n2, c2, l2, rfl, hs2, hb2, ht2, hv2, hc2, hI2⟩ := h2
  have hn1 := tidy_len10 ht1 (k := 200) (by rw [hv1]; exact b1)
  have hn2 := tidy_len10 ht2 (k := 200) (by rw [hv2]; exact b2)
  have ll1 := hs1.dlen
  have ll2 := hs2.dlen
  rw [ll1] at hn1
  rw [ll2] at hn2
  obtain ⟨s1, e1⟩ : ∃ s1, s1 = z1.sign := ⟨_, rfl⟩
  obtain ⟨s2, e2⟩ : ∃ s2, s2 = z2.sign := ⟨_, rfl⟩
  rw [← e1, ← e2]
  obtain ⟨W, hWe⟩ : ∃ W, W = ((w.alloc (.cells #[.int .i64 s1, .slice A1 n1 c1] 39)).alloc (.cells #[.int .i64 s2, .slice A2 n2 c2] 39)).alloc (.cells #[.int .i64 0, .slice none 0 0] 39) := ⟨_, rfl⟩
  have hWs : W.heap.size = w.heap.size + 3 := by rw [hWe]; simp
  have hW : Pu w W := by
    rw [hWe]
    exact (((Pu.refl w).alloc _).alloc _).alloc _
  have k1 : Blk W w.heap.size 39 #[.int .i64 s1, .slice A1 n1 c1] := by rw [hWe]; exact ((Blk.new w _ _).alloc _).alloc _
  have k2 : Blk W (w.heap.size + 1) 39 #[.int .i64 s2, .slice A2 n2 c2] := by rw [hWe]; exact (Blk.at_new _ _ _ (by simp)).alloc _
  have k3 : Blk W (w.heap.size + 2) 39 #[.int .i64 0, .slice none 0 0] := by rw [hWe]; exact Blk.at_new _ _ _ (by simp)
  have hS1 := hs1.pu hW
  have hS2 := hs2.pu hW
  have hmk := fun W => run_make_ints (n1 + n2 + 1) (by omega) W
  have hcast : ((n1 + n2 + 1 : Nat) : Int) = (n1 : Int) + (n2 : Int) + 1 := by omega
  rw [hcast] at hmk
  have Hmk := Lib.hid hmk
  have hw1 : IntKind.i64.wrap ((n1 : Int) + (n2 : Int)) = (n1 : Int) + (n2 : Int) := IntWalk.i64_in _ (by omega)
  have hw2 : IntKind.i64.wrap ((n1 : Int) + (n2 : Int) + 1) = (n1 : Int) + (n2 : Int) + 1 := IntWalk.i64_in _ (by omega)
  have hA0 := DA.made W (n1 + n2 + 1)
  have hP0 : Pu W (W.alloc (.cells (Array.replicate (n1 + n2 + 1) (.int .i64 0)) 3)) := (Pu.refl W).alloc _
  rw [hWs] at hA0
  rw [hWe] at hA0 hP0
  have HWe := Lib.hid hWe
  have HE := Lib.hid (And.intro (And.intro e1 e2) (And.intro hv1 hv2))
  clear hmk hWe hcast hs1 hs2 e1 e2 hv1 hv2 hI1 hI2
  go_enter Tryd.func31, Tryd.ntmps31
  go_wp2_with (simp only [Hmk.out])
  go_loopw [6] (fun iv ws => ∃ (i : Nat) (os : List Nat), i ≤ n1 ∧ iv = .int .i64 i ∧ os.length = n1 + n2 + 1 ∧ Most (81 * i) os ∧ pval 10 os = pval 10 (l1.take i) * pval 10 l2 ∧ DA ws (w.heap.size + 3) os ∧ Pu W ws) (fun iv _ => n1 - (intOf iv).toNat)
  case atStart => exact ⟨0, List.replicate (n1 + n2 + 1) 0, Nat.zero_le _, rfl, by simp, fun x hx => by rw [List.eq_of_mem_replicate hx]; omega, by simp [pval, pval_zeros], hA0, by rw [HWe.out]; exact hP0⟩
  case round =>
    obtain ⟨i, os, hi, rfl, hol, hmo, hv, hA, hP⟩ := hrel
    have HV := Lib.hid hv
    clear hv hA0 hP0
    have j10 : wr.cell? ⟨w.heap.size, 1, none⟩ = some (.slice A1 n1 c1) := (k1.pu hP).cell 1
    by_cases hlt : i < n1
    · obtain ⟨x, hx⟩ : ∃ x, l1[i]? = some x := ⟨_, List.getElem?_eq_getElem (by omega)⟩
      have hxb := hb1 x (List.mem_of_getElem? hx)
      have Hx := Lib.hid hx
      clear hx
      go_wp2_with fail
      go_loopw [7] (fun kv ws => ∃ (k : Nat) (os' : List Nat), k ≤ n2 ∧ kv = .int .i64 k ∧ os'.length = n1 + n2 + 1 ∧ (∀ j y, os'[j]? = some y → y ≤ 81 * i + (if j < i + k then 81 else 0)) ∧ pval 10 os' = pval 10 os + 10 ^ i * (x * pval 10 (l2.take k)) ∧ DA ws (w.heap.size + 3) os' ∧ Pu W ws) (fun kv _ => n2 - (intOf kv).toNat)
      case atStart => exact ⟨0, os, Nat.zero_le _, rfl, hol, fun j y hj => by have := hmo y (List.mem_of_getElem? hj); omega, by simp [pval], hA, hP⟩
      case round =>
        clear hA hP j10
        obtain ⟨k, os', hk, rfl, hol', hmo', hv', hA, hP⟩ := hrel
        have HV' := Lib.hid hv'
        have HM := Lib.hid hmo'
        clear hv' hmo'
        have j20 : wr.cell? ⟨w.heap.size + 1, 1, none⟩ = some (.slice A2 n2 c2) := (k2.pu hP).cell 1
        have j10 : wr.cell? ⟨w.heap.size, 1, none⟩ = some (.slice A1 n1 c1) := (k1.pu hP).cell 1
        by_cases hlk : k < n2
        · obtain ⟨y, hy⟩ : ∃ y, l2[k]? = some y := ⟨_, List.getElem?_eq_getElem (by omega)⟩
          have hyb := hb2 y (List.mem_of_getElem? hy)
          obtain ⟨q1, o1, rfl, hq1, cx⟩ := (hS1.pu hP).dat Hx.out
          obtain ⟨q2, o2, rfl, hq2, cy⟩ := (hS2.pu hP).dat hy
          have Hy := Lib.hid hy
          clear hy
          obtain ⟨old, ho⟩ : ∃ old, os'[i + k]? = some old := ⟨_, List.getElem?_eq_getElem (by omega)⟩
          have hoB := HM.out (i + k) old ho
          rw [if_neg (by omega)] at hoB
          have hg0 : wr.cell? ⟨w.heap.size + 3, i + k, none⟩ = some (.int .i64 (old : Int)) := hA.cell ho
          have hf0 := hA.frozen (i + k)
          have Ho := Lib.hid ho
          have hxy : x * y ≤ 81 := by
            have := Nat.mul_le_mul (show x ≤ 9 by omega) (show y ≤ 9 by omega)
            omega
          obtain ⟨p, hp⟩ : ∃ p, p = x * y := ⟨_, rfl⟩
          have hpi : (x : Int) * (y : Int) = (p : Int) := by rw [hp, Int.natCast_mul]
          rw [← hp] at hxy
          have Hp := Lib.hid hp
          have HA := Lib.hid hA
          have hw3 : IntKind.i64.wrap ((i : Int) + (k : Int)) = (i : Int) + (k : Int) := IntWalk.i64_in _ (by omega)
          have hw4 : IntKind.i64.wrap (p : Int) = (p : Int) := IntWalk.i64_in _ (by omega)
          have hw5 : IntKind.i64.wrap ((old : Int) + (p : Int)) = (old : Int) + (p : Int) := IntWalk.i64_in _ (by omega)
          have hi0 : (0 : Int) ≤ (i : Int) := by omega
          have hi1 : (i : Int) < (n1 : Int) := by omega
          have hk0 : (0 : Int) ≤ (k : Int) := by omega
          have hk1 : (k : Int) < (n2 : Int) := by omega
          have hik0 : (0 : Int) ≤ (i : Int) + (k : Int) := by omega
          have hik1 : (i : Int) + (k : Int) < (n1 : Int) + (n2 : Int) + 1 := by omega
          have hikn : ((i : Int) + (k : Int)).toNat = i + k := by omega
          clear hp ho hA
          go_wp2_with fail
          go_region
          have hA2 := (HA.out.set_ (i + k) (old + p)).drew
          have hP2 : Pu W ((wr.setCell ⟨w.heap.size + 3, i + k, none⟩ (.int .i64 ((old + p : Nat) : Int))).drew) := (hP.setCell (by show W.heap.size ≤ w.heap.size + 3; omega) _).drew
          go_wp2
          go_roundw
          case rel => exact ⟨k + 1, os'.set (i + k) (old + p), by omega, by go_num, by simp [hol'], fun j u hj => by
            rw [List.getElem?_set] at hj
            split at hj
            · rename_i e
              subst e
              split at hj
              · injection hj with hj
                rw [if_pos (by omega)]
                omega
              · cases hj
            · have := HM.out j u hj
              split at this
              · rw [if_pos (by omega)]
                omega
              · split <;> omega, by
            have hs := pval_set (b := 10) (old + p) Ho.out
            rw [Nat.mul_add] at hs
            have h5 : pval 10 (os'.set (i + k) (old + p)) = pval 10 os' + 10 ^ (i + k) * p := by omega
            rw [h5, HV'.out, pval_take_succ Hy.out, Nat.mul_add x, Nat.mul_add (10 ^ i), Hp.out, Nat.pow_add, Nat.mul_assoc (10 ^ i) (10 ^ k), Nat.mul_left_comm (10 ^ k) x y, Nat.add_assoc], hA2, hP2⟩
          case measure => simp [intOf]; omega
        · obtain rfl : k = n2 := by omega
          have hw6 : IntKind.i64.wrap ((i : Int) + 1) = (i : Int) + 1 := IntWalk.i64_in _ (by omega)
          go_wp2
          go_roundw
          case rel => exact ⟨i + 1, os', by omega, by go_num, hol', fun u hu => by
            obtain ⟨j, hj⟩ := List.mem_iff_getElem?.1 hu
            have := HM.out j u hj
            split at this <;> omega, by
            rw [HV'.out, List.take_of_length_le (l := l2) (by omega), HV.out, pval_take_succ Hx.out, Nat.add_mul, Nat.mul_assoc], hA, hP⟩
          case measure => simp [intOf]; omega
    · obtain rfl : i = n1 := by omega
      have hv1 : pval 10 os = pval 10 l1 * pval 10 l2 := by rw [HV.out, List.take_of_length_le (by omega)]
      have Hv1 := Lib.hid hv1
      have hK : 81 * i ≤ 20000 := by omega
      have hmo2 : Most 20000 os := fun x hx => by have := hmo x hx; omega
      clear hv1 hmo
      go_wp2_with fail
      go_loopw [8] (fun jv ws => ∃ (j : Nat) (os' : List Nat), j ≤ i + n2 ∧ jv = .int .i64 j ∧ os'.length = i + n2 + 1 ∧ (∀ m y, os'[m]? = some y → (m < j → y < 10) ∧ (j < m → y ≤ 20000) ∧ y ≤ 40000) ∧ pval 10 os' = pval 10 l1 * pval 10 l2 ∧ DA ws (w.heap.size + 3) os' ∧ Pu W ws) (fun jv _ => i + n2 - (intOf jv).toNat)
      case atStart => exact ⟨0, os, Nat.zero_le _, rfl, hol, fun m y hm => by have := hmo2 y (List.mem_of_getElem? hm); omega, Hv1.out, hA, hP⟩
      case round =>
        clear hA hP j10 hmo2
        obtain ⟨j, os', hj, rfl, hol', hmo', hv', hA, hP⟩ := hrel
        have HV' := Lib.hid hv'
        have HM := Lib.hid hmo'
        clear hv' hmo'
        have hwj : IntKind.i64.wrap ((j : Int) + 1) = (j : Int) + 1 := IntWalk.i64_in _ (by omega)
        by_cases hjl : j < i + n2
        · have d1 : decide ((j : Int) + 1 < (i : Int) + (n2 : Int) + 1) = true := by simp; omega
          obtain ⟨x, hx⟩ : ∃ x, os'[j]? = some x := ⟨_, List.getElem?_eq_getElem (by omega)⟩
          obtain ⟨y, hy⟩ : ∃ y, os'[j + 1]? = some y := ⟨_, List.getElem?_eq_getElem (by omega)⟩
          have hxB := (HM.out j x hx).2.2
          have hyB := (HM.out (j + 1) y hy).2.1 (by omega)
          have hcx : wr.cell? ⟨w.heap.size + 3, j, none⟩ = some (.int .i64 (x : Int)) := hA.cell hx
          have hcy : wr.cell? ⟨w.heap.size + 3, j + 1, none⟩ = some (.int .i64 (y : Int)) := hA.cell hy
          have hfx := hA.frozen j
          have hfy := hA.frozen (j + 1)
          obtain ⟨q, hq⟩ : ∃ q, q = x / 10 := ⟨_, rfl⟩
          obtain ⟨r, hr⟩ : ∃ r, r = x % 10 := ⟨_, rfl⟩
          have hqi : (x : Int) / 10 = (q : Int) := by omega
          have hri : (x : Int) % 10 = (r : Int) := by omega
          have hw7 : IntKind.i64.wrap (q : Int) = (q : Int) := IntWalk.i64_in _ (by omega)
          have hw8 : IntKind.i64.wrap ((y : Int) + (q : Int)) = (y : Int) + (q : Int) := IntWalk.i64_in _ (by omega)
          have hw9 : IntKind.i64.wrap ((x : Int) / 10) = (x : Int) / 10 := IntWalk.i64_in _ (by omega)
          have ht1 : (x : Int).tdiv 10 = (x : Int) / 10 := Int.tdiv_eq_ediv_of_nonneg (by omega)
          have ht2 : (x : Int).tmod 10 = (x : Int) % 10 := Int.tmod_eq_emod_of_nonneg (by omega)
          have hj0 : (0 : Int) ≤ (j : Int) := by omega
          have hj1 : (j : Int) < (i : Int) + (n2 : Int) + 1 := by omega
          have hj2 : (0 : Int) ≤ (j : Int) + 1 := by omega
          have hjn : ((j : Int) + 1).toNat = j + 1 := by omega
          have Hx := Lib.hid hx
          have Hy := Lib.hid hy
          have HA := Lib.hid hA
          have Hqr := Lib.hid (And.intro hq hr)
          clear hx hy hA hq hr
          go_wp2_with fail
          go_region
          have hA2 := (HA.out.set_ (j + 1) (y + q)).drew
          have hP2 : Pu W ((wr.setCell ⟨w.heap.size + 3, j + 1, none⟩ (.int .i64 ((y + q : Nat) : Int))).drew) := (hP.setCell (by show W.heap.size ≤ w.heap.size + 3; omega) _).drew
          have hxx : (os'.set (j + 1) (y + q))[j]? = some x := by
            rw [List.getElem?_set, if_neg (by omega)]
            exact Hx.out
          have hcx2 : ((wr.setCell ⟨w.heap.size + 3, j + 1, none⟩ (.int .i64 ((y : Int) + (q : Int)))).drew).cell? ⟨w.heap.size + 3, j, none⟩ = some (.int .i64 (x : Int)) := hA2.cell hxx
          have hfx2 : ((wr.setCell ⟨w.heap.size + 3, j + 1, none⟩ (.int .i64 ((y : Int) + (q : Int)))).drew).frozen? ⟨w.heap.size + 3, j, none⟩ = false := hA2.frozen j
          have hA3 := hA2.set_ j r
          have hP3 : Pu W ((((wr.setCell ⟨w.heap.size + 3, j + 1, none⟩ (.int .i64 ((y + q : Nat) : Int))).drew).setCell ⟨w.heap.size + 3, j, none⟩ (.int .i64 (r : Int)))) := hP2.setCell (by show W.heap.size ≤ w.heap.size + 3; omega) _
          have hA4 := ((HA.out.set_ (j + 1) (y + q)).set_ j r).drew
          have hP4 : Pu W (((wr.setCell ⟨w.heap.size + 3, j + 1, none⟩ (.int .i64 ((y + q : Nat) : Int))).setCell ⟨w.heap.size + 3, j, none⟩ (.int .i64 (r : Int))).drew) := ((hP.setCell (by show W.heap.size ≤ w.heap.size + 3; omega) _).setCell (by show W.heap.size ≤ w.heap.size + 3; omega) _).drew
          have HXX := Lib.hid hxx
          have hx10 : x = 10 * q + r ∧ r < 10 ∧ q ≤ 4000 := by
            have := Hqr.out
            omega
          have HX10 := Lib.hid hx10
          clear hA2 hP2 hA3 hP3 hxx hx10
          go_wp2
          go_roundw
          case rel => exact ⟨j + 1, (os'.set (j + 1) (y + q)).set j r, by omega, by go_num, by simp [hol'], fun m u hm => by
            have h10 := HX10.out
            rw [List.getElem?_set] at hm
            split at hm
            · rename_i e
              subst e
              split at hm
              · injection hm with hm
                omega
              · cases hm
            · rw [List.getElem?_set] at hm
              split at hm
              · rename_i e
                subst e
                split at hm
                · injection hm with hm
                  omega
                · cases hm
              · have := HM.out m u hm
                omega, by
            have s1 := pval_set (b := 10) (y + q) Hy.out
            have s2 := pval_set (b := 10) r HXX.out
            have h10 := HX10.out
            rw [h10.1, Nat.mul_add, ← Nat.mul_assoc] at s2
            rw [Nat.pow_succ, Nat.mul_add] at s1
            rw [← HV'.out]
            omega, hA4, hP4⟩
          case measure => simp [intOf]; omega
        · obtain rfl : j = i + n2 := by omega
          have d1 : decide ((i : Int) + (n2 : Int) + 1 < (i : Int) + (n2 : Int) + 1) = false := by simp
          have hlast : ∀ y, os'[i + n2]? = some y → y = 0 := by
            intro y hy
            have h3 := pval_cut 10 os' (i + n2) (by omega)
            have h4 : os'.drop (i + n2) = [y] := by
              have := List.drop_eq_getElem_cons (l := os') (i := i + n2) (by omega)
              rw [this, List.drop_eq_nil_of_le (by omega)]
              rw [List.getElem?_eq_getElem (by omega)] at hy
              injection hy with hy
              rw [hy]
            rw [h4, HV'.out] at h3
            simp only [pval, Nat.mul_zero, Nat.add_zero] at h3
            have h5 := pval_lt hb1
            have h6 := pval_lt hb2
            rw [ll1] at h5
            rw [ll2] at h6
            have h7 : pval 10 l1 * pval 10 l2 < 10 ^ (i + n2) := by
              rw [Nat.pow_add]
              exact Nat.mul_lt_mul_of_lt_of_le h5 (Nat.le_of_lt h6) (Nat.pow_pos (by omega))
            rcases Nat.eq_zero_or_pos y with h | h
            · exact h
            · have h8 : 10 ^ (i + n2) * 1 ≤ 10 ^ (i + n2) * y := Nat.mul_le_mul_left _ h
              omega
          have hbo : Below_ 10 os' := by
            intro y hy
            obtain ⟨m, hm⟩ := List.mem_iff_getElem?.1 hy
            have hml := (List.getElem?_eq_some_iff.1 hm).1
            rcases Nat.lt_or_ge m (i + n2) with h | h
            · exact (HM.out m y hm).1 h
            · have : m = i + n2 := by omega
              subst this
              rw [hlast y hm]
              omega
          have hSo := hA.sl (n := i + n2 + 1) (c := i + n2 + 1) hol'.symm (Nat.le_refl _)
          have hsm : ∃ σ, σ = s1 * s2 := ⟨_, rfl⟩
          obtain ⟨σ, hσ⟩ := hsm
          have hz : (σ = 1 ∨ σ = -1 ∨ pval 10 os' = 0) ∧ σ * ((pval 10 os' : Nat) : Int) = z1 * z2 := by
            rw [HV'.out, HE.out.2.1, HE.out.2.2, hσ, HE.out.1.1, HE.out.1.2]
            refine ⟨?_, ?_⟩
            · rcases Decidable.em (z1 = 0) with e | e
              · refine .inr (.inr ?_)
                rw [e]
                simp
              · rcases Decidable.em (z2 = 0) with e' | e'
                · refine .inr (.inr ?_)
                  rw [e']
                  simp
                · rcases sign_one z1 e with h | h <;> rcases sign_one z2 e' with h' | h' <;> rw [h, h'] <;> simp
            · rw [← Int.sign_mul, ← Int.natAbs_mul]
              exact Int.sign_mul_natAbs _
          have hσ1 : -1 ≤ σ ∧ σ ≤ 1 := by
            rw [hσ, HE.out.1.1, HE.out.1.2, ← Int.sign_mul]
            rcases Int.lt_trichotomy (z1 * z2) 0 with h | h | h
            · rw [Int.sign_eq_neg_one_of_neg h]; omega
            · rw [h]; decide
            · rw [Int.sign_eq_one_of_pos h]; omega
          have hwσ : IntKind.i64.wrap (s1 * s2) = σ := by rw [← hσ]; exact IntWalk.i64_in _ (by omega)
          have hmd := rmade_any σ _ _ _ os' wr hSo (by omega) (by simp [maxLen]; omega) hbo hA.at_ hz.1
          rw [hz.2] at hmd
          have Hmd := Lib.hid hmd
          have k3' := k3.pu hP
          have hP' := hW.trans hP
          have j10 : wr.cell? ⟨w.heap.size, 0, none⟩ = some (.int .i64 s1) := (k1.pu hP).cell 0
          have j20 : wr.cell? ⟨w.heap.size + 1, 0, none⟩ = some (.int .i64 s2) := (k2.pu hP).cell 0
          clear hmd hSo hbo hz hlast hA hP hσ hσ1
          go_wp2_with fail
          refine Hmd.out.mono ?_
          rintro e w2 ⟨v', rfl, hz', p2⟩
          have hR := k3'.pu p2
          obtain ⟨σ5, A5, n5, c5, rfl⟩ : ∃ σ A n c, v' = .agg #[.int .i64 σ, .slice A n c] := by
            obtain ⟨A, n, c, l, rfl, -⟩ := hz'
            exact ⟨_, A, n, c, rfl⟩
          have q0 : w2.cell? ⟨w.heap.size + 2, 0, none⟩ = some (.int .i64 0) := hR.cell 0
          have q1 : w2.cell? ⟨w.heap.size + 2, 1, none⟩ = some (.slice none 0 0) := hR.cell 1
          have f0 : w2.frozen? ⟨w.heap.size + 2, 0, none⟩ = false := hR.frozen 0
          have f1 : w2.frozen? ⟨w.heap.size + 2, 1, none⟩ = false := hR.frozen 1
          obtain ⟨r0, r1, rp, rf⟩ := store_rz hR σ5 A5 n5 c5
          have hfin := rf _ _ hz'
          have PP := rp _ (hP'.trans p2) (by omega)
          go_wp2
          exact bodyPost_ret (v := .agg #[.int .i64 σ5, .slice A5 n5 c5]) (by simp [results, Tryd.results31, go_sem, r0, r1]) rfl ⟨_, rfl, hfin, PP⟩
end Go.Proofs.YtckfnbckoclhpaaDoor
