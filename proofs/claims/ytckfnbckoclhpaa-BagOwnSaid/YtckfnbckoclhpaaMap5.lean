/- Maps of int to int: slices.Insert of one pair. -/
import Derived.Test.YtckfnbckoclhpaaMap4
import Derived.Lib.Overlaps
import Derived.Lib.AppendZerosOnto
import Derived.Lib.AppendZeros
import Derived.Laws.Externs
set_option linter.unusedVariables false
namespace Go.Proofs.Ytckfnbckoclhpaa
open Go.RowKit

/-- a list with one more at a place -/
abbrev putAt (l : List (Int × Int)) (i : Nat) (k v : Int) : List (Int × Int) := l.take i ++ (k, v) :: l.drop i

theorem Blk.shape {w : World} {g : Nat} {t : TypeId} {cs : Array Value} (h : Blk w g t cs) : w.shape? g = some (t, cs.size) := by
  unfold Blk at h
  simp [World.shape?, h]

theorem putAt_len {l : List (Int × Int)} {i : Nat} {k v : Int} (hi : i ≤ l.length) : (putAt l i k v).length = l.length + 1 := by
  simp [putAt]
  omega
theorem putAt_get {l : List (Int × Int)} {i : Nat} {k v : Int} (hi : i ≤ l.length) (j : Nat) :
    (prs (putAt l i k v))[j]? = if j < i * 2 then (prs l)[j]? else if j < i * 2 + 2 then [Value.int .i64 k, .int .i64 v][j - i * 2]? else (prs l)[j - 2]? := by
  have hl := prs_len l
  have e : prs (putAt l i k v) = prs (l.take i) ++ ([Value.int .i64 k, .int .i64 v] ++ prs (l.drop i)) := by simp [prs]
  have htl : (prs (l.take i)).length = i * 2 := by rw [prs_len]; simp; omega
  rw [e]
  by_cases h1 : j < i * 2
  · rw [if_pos h1, List.getElem?_append_left (by omega), prs_take, List.getElem?_take, if_pos h1]
  · rw [if_neg h1, List.getElem?_append_right (by omega), htl]
    by_cases h2 : j < i * 2 + 2
    · rw [if_pos h2, List.getElem?_append_left (by simp; omega)]
    · rw [if_neg h2, List.getElem?_append_right (by simp; omega), prs_drop, List.getElem?_drop]
      simp
      congr 1
      omega

/-- what Insert does to a row of the call's own -/
def Inserted (base : Nat) (A : Option Addr) (n c i : Nat) (l : List (Int × Int)) (k v : Int) (w : World) (e : Ending) (w' : World) : Prop :=
  ∃ A' c', e = .returned (.slice A' (n + 1) c') ∧ w'.ownsRow base 75 2 (.slice A' (n + 1) c') (n + 1) (prs (putAt l i k v)) ∧ Fr (fun j => (Value.slice A n c).ownBlock = some j) w w'

set_option maxHeartbeats 1000000 in
set_option maxRecDepth 100000 in
theorem insert_room (base : Nat) (g n c i vb : Nat) (l : List (Int × Int)) (k v : Int) (w : World) (h : w.ownsRow base 75 2 (.slice (some ⟨g, 0, none⟩) n c) n (prs l)) (hi : i < n) (hn : n ≤ 1000)
    (hv : Blk w vb 75 #[.int .i64 k, .int .i64 v]) (hvg : vb ≠ g) (hroom : n + 1 ≤ c) :
    Calls Try.prog 65 #[.slice (some ⟨g, 0, none⟩) n c, .int .i64 i, .slice (some ⟨vb, 0, none⟩) 1 1] w (Inserted base (some ⟨g, 0, none⟩) n c i l k v w) := by
  have hl : l.length = n := (Sl.of_own h).prs_len
  obtain ⟨g', cur, hA, hb, hg, hnc, hcm, hcs, htk⟩ := own_blk h (by omega)
  obtain rfl : g' = g := by injection hA with hA; injection hA with hA; exact hA.symm
  have hcm2 : c ≤ 9223372036854775807 := hcm
  obtain ⟨i0, hi0, hz0, hzs, hzb⟩ := info_parts eiPair.info
  have hsz2 : (Try.prog.info? 75).map (·.size) = some 2 := by kernel_rfl
  have hdl : (prs (l.drop i)).length = (n - i) * 2 := by rw [prs_len]; simp [hl]
  -- the first copy
  obtain ⟨ds, hds⟩ : ∃ ds : Array Value, ds = (over cur.toList ((i + 1) * 2) (prs (l.drop i))).toArray := ⟨_, rfl⟩
  have hdsz : ds.size = c * 2 := by
    rw [hds, List.size_toArray, over_len _ _ _ (by rw [hdl, Array.length_toList]; omega), Array.length_toList, hcs]
  have hmin1 : Nat.min (n + 1 - i) (n - i) = n - i := by simp only [Nat.min_def]; split <;> omega
  have hcp1 : ∀ ty dc sc, (Builtin.copy_ #[73, 73] ty #[.slice (some ⟨g', (i + 1) * 2, none⟩) (n - i) dc, .slice (some ⟨g', i * 2, none⟩) (n + 1 - i) sc]).run Try.prog w.drew =
      .ok (goInt ((n - i : Nat) : Int)) (w.drew.setRow g' ds) := fun ty dc sc => by
    have := run_copy_blk (P := Try.prog) w.drew 73 73 ty _ 2 g' ((i + 1) * 2) (n - i) dc ⟨g', i * 2, none⟩ (n + 1 - i) sc cur _ (prs (l.drop i)) eiPair.under hsz2 hg.drew (by rw [hdl, hmin1]) (fun j u hu => by
      have hj := (List.getElem?_eq_some_iff.1 hu).1
      rw [Addr.add_lit, hg.drew.cell, take_add_one_prs htk (by omega)]
      rw [prs_drop, List.getElem?_drop] at hu
      exact hu) (by omega) (prs_one _)
    rw [this, hds, hmin1]
  have hg2 : Blk (w.drew.setRow g' ds) g' 75 ds := setRow_blk hg.drew ds
  have hv2 : Blk (w.drew.setRow g' ds) vb 75 #[.int .i64 k, .int .i64 v] := hv.drew.fr (setRow_fr w.drew g' ds) hvg
  -- the second copy
  obtain ⟨es, hes⟩ : ∃ es : Array Value, es = (over ds.toList (i * 2) [Value.int .i64 k, .int .i64 v]).toArray := ⟨_, rfl⟩
  have hesz : es.size = c * 2 := by
    rw [hes, List.size_toArray, over_len _ _ _ (by rw [Array.length_toList]; simp; omega), Array.length_toList, hdsz]
  have hmin2 : Nat.min 1 (n + 1 - i) = 1 := by simp only [Nat.min_def]; split <;> omega
  have hcp2 : ∀ ty dc sc, (Builtin.copy_ #[73, 73] ty #[.slice (some ⟨g', i * 2, none⟩) (n + 1 - i) dc, .slice (some ⟨vb, 0, none⟩) 1 sc]).run Try.prog (w.drew.setRow g' ds) =
      .ok (goInt ((1 : Nat) : Int)) ((w.drew.setRow g' ds).setRow g' es) := fun ty dc sc => by
    have := run_copy_blk (P := Try.prog) (w.drew.setRow g' ds) 73 73 ty _ 2 g' (i * 2) (n + 1 - i) dc ⟨vb, 0, none⟩ 1 sc ds _ [Value.int .i64 k, .int .i64 v] eiPair.under hsz2 hg2 (by rw [hmin2]; rfl) (fun j u hu => by
      rw [Addr.add_lit, Nat.zero_add, hv2.cell, ← hu]
      simp) (by simp; omega) (by simp [Value.oneCell'])
    rw [this, hes, hmin2]
  have hg3 : Blk ((w.drew.setRow g' ds).setRow g' es) g' 75 es := setRow_blk hg2 es
  have hown : ((w.drew.setRow g' ds).setRow g' es).ownsRow base 75 2 (.slice (some ⟨g', 0, none⟩) (n + 1) c) (n + 1) (prs (putAt l i k v)) := by
    refine own_of_blk hb hg3 (by omega) hcm hesz (by rw [prs_len, putAt_len (by omega), hl]) fun j hj => ?_
    rw [putAt_get (by omega), hes, List.getElem?_toArray, over_get _ _ _ (by rw [Array.length_toList]; simp; omega), hds, Array.getElem?_toList, List.getElem?_toArray, over_get _ _ _ (by rw [hdl, Array.length_toList]; omega)]
    by_cases c1 : j < i * 2
    · rw [if_neg (by omega), if_neg (by omega), if_pos c1, Array.getElem?_toList, take_add_one_prs htk (by omega)]
    · by_cases c2 : j < i * 2 + 2
      · rw [if_pos (by simp; omega), if_neg c1, if_pos c2]
      · rw [if_neg (by simp; omega), if_pos (by omega), if_neg c1, if_neg c2, prs_drop, List.getElem?_drop]
        congr 1
        omega
  have hfr : Fr (fun j => (Value.slice (some ⟨g', 0, none⟩) n c).ownBlock = some j) w ((w.drew.setRow g' ds).setRow g' es) := by
    have h1 := (Fr.refl (fun j => j = g') w).drew.trans (setRow_fr w.drew g' ds)
    exact (h1.trans (setRow_fr _ g' es)).mono (fun j _ e => by rw [e]; rfl)
  have hov : ∀ lb cb, (callFunc 79 #[.slice (some ⟨vb, 0, none⟩) 1 1, .slice (some ⟨g', (i + 1) * 2, none⟩) lb cb]).run Try.prog w = .ok (.value (.bool false)) w := fun lb cb => by
    rw [run_callFunc_extern Try.func79 (by kernel_rfl) (by kernel_rfl) (by kernel_rfl) (e := Extern.SlicesOverlaps.overlaps #[73, 73] #[4]) (by kernel_rfl),
      Lib.run_overlaps_apart w 73 4 75 eiPair.under 2 (fun w => by simp [sizeOf, typeInfo, hi0, hzs]) ⟨vb, 0, none⟩ ⟨g', (i + 1) * 2, none⟩ 1 1 lb cb hvg 75 75 2 (c * 2) hv.shape (by rw [hg.shape, hcs]) (by omega) (hv.frozen 0) (hv.frozen 2)]
    rfl
  have Hov := Lib.hid hov
  have Hcp1 := Lib.hid hcp1
  have Hcp2 := Lib.hid hcp2
  have e1 : ((i : Int) == (n : Int)) = false := by simp; omega
  have e2 : ¬ (c = i) := by omega
  have e3 : ¬ (c = i + 1) := by omega
  have e4 : decide ((n : Int) + 1 > (c : Int)) = false := by simp; omega
  have e5 : decide ((c : Int) < (n : Int) + 1) = false := by simp; omega
  have hin : i ≤ n := by omega
  have hw1 : IntKind.i64.wrap ((i : Int) + 1) = (i : Int) + 1 := IntWalk.i64_in _ (by omega)
  have hw2 : IntKind.i64.wrap ((n : Int) + 1) = (n : Int) + 1 := IntWalk.i64_in _ (by omega)
  have hb1 : (0 : Int) ≤ (i : Int) + 1 := by omega
  have hb2 : (i : Int) + 1 ≤ (n : Int) + 1 := by omega
  have hb3 : (i : Int) ≤ (n : Int) + 1 := by omega
  have htn : ((i : Int) + 1).toNat = i + 1 := by omega
  have htn2 : ((n : Int) + 1).toNat = n + 1 := by omega
  clear hes hesz hds hdsz hg hg2 hg3 hv hv2 htk hcs hov hcp1 hcp2 hdl hl h hb hmin1 hmin2
  go_enter Try.func65, Try.ntmps65
  go_wp2_with (simp only [Hov.out])
  go_region_law (refine step_builtin2 (S := Builtin.copy_) (fun _ _ _ _ => rfl) rfl (.tmp 73) (.tmp 76) _ rfl _ _ (by simp [Act.eval, Act.put]) (by simp [Act.eval, Act.put]) (Hcp1.out _ (c - (i + 1)) (c - i)) ?_)
  go_wp2_with (simp only [Hcp2.out])
  go_ret
  exact ⟨some ⟨g', 0, none⟩, c, rfl, hown, hfr⟩

set_option maxHeartbeats 1000000 in
set_option maxRecDepth 100000 in
theorem insert_end (base : Nat) (A : Option Addr) (n c vb : Nat) (l : List (Int × Int)) (k v : Int) (w : World) (h : w.ownsRow base 75 2 (.slice A n c) n (prs l)) (hn : n ≤ 1000) (hbase : base ≤ w.heap.size)
    (hv : Blk w vb 75 #[.int .i64 k, .int .i64 v]) :
    Calls Try.prog 65 #[.slice A n c, .int .i64 n, .slice (some ⟨vb, 0, none⟩) 1 1] w (Inserted base A n c n l k v w) := by
  have hl : l.length = n := (Sl.of_own h).prs_len
  have hle := own_le h
  have hcm : c ≤ 9223372036854775807 := hle.2
  have hv1 : Sl w 2 (some ⟨vb, 0, none⟩) 1 1 [Value.int .i64 k, .int .i64 v] := Sl.of_blk hv 2 1 1 rfl (Nat.le_refl _)
  have fin : ∀ A1 c1 w2, w2.ownsRow base 75 2 (.slice A1 (n + 1) c1) (n + 1) (prs l ++ [Value.int .i64 k, .int .i64 v]) → w.grownBy w2 (Value.slice A n c).ownBlock → Inserted base A n c n l k v w (.returned (.slice A1 (n + 1) c1)) w2 := fun A1 c1 w2 h1 h2 => by
    refine ⟨A1, c1, rfl, ?_, Fr.of_grown h2⟩
    have e : prs (putAt l n k v) = prs l ++ [Value.int .i64 k, .int .i64 v] := by
      rw [putAt, List.take_of_length_le (by omega), List.drop_eq_nil_of_le (by omega), prs_append]
      rfl
    rw [e]
    exact h1
  have Fin := Lib.hid fin
  have e1 : ((n : Int) == (n : Int)) = true := by simp
  go_enter Try.func65, Try.ntmps65
  go_wp2_with (at_builtin; refine wpList_app eiPair rfl (.tmp 23) (.tmp 24) rfl rfl rfl h hv1 (by simp [Value.oneCell']) (by simp [maxLen]; omega) (by omega) hbase ?_)
  all_goals
    intro A1 c1 w2 ho hg
    go_wp2
    go_ret
    first | exact Fin.out _ _ _ ho hg | exact Fin.out _ _ _ ho (by cases A <;> exact hg)

set_option maxHeartbeats 1600000 in
set_option maxRecDepth 100000 in
theorem insert_grow (base : Nat) (g n i vb : Nat) (l : List (Int × Int)) (k v : Int) (w : World) (h : w.ownsRow base 75 2 (.slice (some ⟨g, 0, none⟩) n n) n (prs l)) (hi : i < n) (hn : n ≤ 1000) (hbase : base ≤ w.heap.size)
    (hv : Blk w vb 75 #[.int .i64 k, .int .i64 v]) :
    Calls Try.prog 65 #[.slice (some ⟨g, 0, none⟩) n n, .int .i64 i, .slice (some ⟨vb, 0, none⟩) 1 1] w (Inserted base (some ⟨g, 0, none⟩) n n i l k v w) := by
  have hl : l.length = n := (Sl.of_own h).prs_len
  obtain ⟨g', cur, hA, hb, hg, hnc, hcm, hcs, htk⟩ := own_blk h (by omega)
  obtain rfl : g' = g := by injection hA with hA; injection hA with hA; exact hA.symm
  obtain ⟨i0, hi0, hz0, hzs, hzb⟩ := info_parts eiPair.info
  have hsz2 : (Try.prog.info? 75).map (·.size) = some 2 := by kernel_rfl
  have hdl : (prs (l.drop i)).length = (n - i) * 2 := by rw [prs_len]; simp [hl]
  have htl : (prs (l.take i)).length = i * 2 := by rw [prs_len]; simp [hl]; omega
  have hold : (Builtin.firstCells i0.size i (.slice (some ⟨g', 0, none⟩) i n)).run Try.prog w.drew = .ok (prs (l.take i)).toArray w.drew := by
    rw [hzs]
    exact run_firstCells_some w.drew 2 i ⟨g', 0, none⟩ i n (prs (l.take i)) (by rw [htl]) (fun j u hu => by
      have hj := (List.getElem?_eq_some_iff.1 hu).1
      rw [Addr.add_lit, Nat.zero_add, hg.drew.cell, take_add_one_prs htk (by omega)]
      rw [prs_take, List.getElem?_take, if_pos (by omega)] at hu
      exact hu)
  have hsum : i + (n + 1 - i) = n + 1 := by omega
  have hkk : (n : Int) + 1 - (i : Int) = ((n + 1 - i : Nat) : Int) := by omega
  have hG1 := grownCap_ge w (n + 1) n 75
  have hG2 : grownCap w (n + 1) n 75 ≤ maxLen := grownCap_le_maxLen w (n + 1) n _ (by simp [maxLen]; omega)
  have hrz0 : ∀ ty, _ := fun ty => Lib.run_append_grow_zeros (P := Try.prog) w 73 3 ty 75 i0 _ .i64 .i64 eiPair.under Try.underlying3 hi0 hz0 (some ⟨g', 0, none⟩) i n (prs (l.take i)) hold (n + 1 - i) (by omega) (by omega) (by omega) (by omega) (by rw [hzb]; omega) (by rw [hzb, hsum]; exact growslice_fits (by omega) (by omega))
  rw [hsum, ← hkk] at hrz0
  generalize hG : grownCap w (n + 1) n 75 = G at *
  obtain ⟨ROW, hROW⟩ : ∃ ROW : Array Value, ROW = (prs (l.take i)).toArray ++ Builtin.zeroCells (Value.agg #[Value.int .i64 0, .int .i64 0]).cells (n + 1 - i) ++ Builtin.zeroCells (Value.agg #[Value.int .i64 0, .int .i64 0]).cells (G - (n + 1)) := ⟨_, rfl⟩
  rw [← hROW] at hrz0
  obtain ⟨W1, hW1⟩ : ∃ W1, W1 = (w.alloc (.cells ROW 75)).drew := ⟨_, rfl⟩
  have hrz1 : ∀ ty, (Builtin.append_ #[73, 3] ty #[.slice (some ⟨g', 0, none⟩) i n, .int .i64 ((n : Int) + 1 - (i : Int))]).run Try.prog w = .ok (.slice (some ⟨w.heap.size, 0, none⟩) (n + 1) G) W1 := fun ty => by
    rw [hW1]
    exact hrz0 ty
  clear hrz0
  have hzc : (Value.agg #[Value.int .i64 0, .int .i64 0]).cells.size = 2 := rfl
  have hRs : ROW.size = G * 2 := by
    rw [hROW]
    simp only [Array.size_append, size_zeroCells, List.size_toArray, htl, hzc]
    omega
  obtain ⟨q, hq⟩ : ∃ q, q = w.heap.size := ⟨_, rfl⟩
  rw [← hq] at hrz1
  have hB1 : Blk W1 q 75 ROW := by rw [hW1, hq]; exact (Blk.new w _ _).drew
  have hP1 : Pu w W1 := by rw [hW1]; exact ((Pu.refl w).alloc _).drew
  have hgq : g' ≠ q := by have := hg.lt; omega
  have hvq : vb ≠ q := by have := hv.lt; omega
  -- the first copy
  obtain ⟨ds, hds⟩ : ∃ ds : Array Value, ds = (over ROW.toList (i * 2) [Value.int .i64 k, .int .i64 v]).toArray := ⟨_, rfl⟩
  have hdsz : ds.size = G * 2 := by
    rw [hds, List.size_toArray, over_len _ _ _ (by rw [Array.length_toList]; simp; omega), Array.length_toList, hRs]
  have hmin1 : Nat.min 1 (n + 1 - i) = 1 := by simp only [Nat.min_def]; split <;> omega
  have hcp1 : ∀ ty dc sc, (Builtin.copy_ #[73, 73] ty #[.slice (some ⟨q, i * 2, none⟩) (n + 1 - i) dc, .slice (some ⟨vb, 0, none⟩) 1 sc]).run Try.prog W1 =
      .ok (goInt ((1 : Nat) : Int)) (W1.setRow q ds) := fun ty dc sc => by
    have := run_copy_blk (P := Try.prog) W1 73 73 ty _ 2 q (i * 2) (n + 1 - i) dc ⟨vb, 0, none⟩ 1 sc ROW _ [Value.int .i64 k, .int .i64 v] eiPair.under hsz2 hB1 (by rw [hmin1]; rfl) (fun j u hu => by
      rw [Addr.add_lit, Nat.zero_add, (hv.pu hP1).cell, ← hu]
      simp) (by simp; omega) (by simp [Value.oneCell'])
    rw [this, hds, hmin1]
  have hB2 : Blk (W1.setRow q ds) q 75 ds := setRow_blk hB1 ds
  have hg2 : Blk (W1.setRow q ds) g' 75 cur := (hg.pu hP1).fr (setRow_fr W1 q ds) hgq
  -- the second copy
  obtain ⟨es, hes⟩ : ∃ es : Array Value, es = (over ds.toList ((i + 1) * 2) (prs (l.drop i))).toArray := ⟨_, rfl⟩
  have hesz : es.size = G * 2 := by
    rw [hes, List.size_toArray, over_len _ _ _ (by rw [hdl, Array.length_toList]; omega), Array.length_toList, hdsz]
  have hmin2 : Nat.min (n - i) (n - i) = n - i := by simp only [Nat.min_def]; split <;> omega
  have hcp2 : ∀ ty dc sc, (Builtin.copy_ #[73, 73] ty #[.slice (some ⟨q, (i + 1) * 2, none⟩) (n - i) dc, .slice (some ⟨g', i * 2, none⟩) (n - i) sc]).run Try.prog (W1.setRow q ds).drew =
      .ok (goInt ((n - i : Nat) : Int)) ((W1.setRow q ds).drew.setRow q es) := fun ty dc sc => by
    have := run_copy_blk (P := Try.prog) (W1.setRow q ds).drew 73 73 ty _ 2 q ((i + 1) * 2) (n - i) dc ⟨g', i * 2, none⟩ (n - i) sc ds _ (prs (l.drop i)) eiPair.under hsz2 hB2.drew (by rw [hdl, hmin2]) (fun j u hu => by
      have hj := (List.getElem?_eq_some_iff.1 hu).1
      rw [Addr.add_lit, hg2.drew.cell, take_add_one_prs htk (by omega)]
      rw [prs_drop, List.getElem?_drop] at hu
      exact hu) (by omega) (prs_one _)
    rw [this, hes, hmin2]
  have hB3 : Blk ((W1.setRow q ds).drew.setRow q es) q 75 es := setRow_blk hB2.drew es
  have hown : ((W1.setRow q ds).drew.setRow q es).ownsRow base 75 2 (.slice (some ⟨q, 0, none⟩) (n + 1) G) (n + 1) (prs (putAt l i k v)) := by
    refine own_of_blk (by omega) hB3 (by omega) hG2 hesz (by rw [prs_len, putAt_len (by omega), hl]) fun j hj => ?_
    rw [putAt_get (by omega), hes, List.getElem?_toArray, over_get _ _ _ (by rw [hdl, Array.length_toList]; omega), hds, Array.getElem?_toList, List.getElem?_toArray, over_get _ _ _ (by rw [Array.length_toList]; simp; omega)]
    by_cases c1 : j < i * 2
    · rw [if_neg (by omega), if_neg (by omega), if_pos c1, Array.getElem?_toList, hROW, Array.getElem?_append_left (by simp [size_zeroCells, htl]; omega), Array.getElem?_append_left (by simp [htl]; omega), List.getElem?_toArray, prs_take, List.getElem?_take, if_pos c1]
    · by_cases c2 : j < i * 2 + 2
      · rw [if_neg (by omega), if_pos (by simp; omega), if_neg c1, if_pos c2]
      · rw [if_pos (by omega), if_neg c1, if_neg c2]
        show (prs (l.drop i))[j - (i + 1) * 2]? = _
        rw [prs_drop, List.getElem?_drop]
        congr 1
        omega
  have hpu : Pu w ((W1.setRow q ds).drew.setRow q es) := by
    have h1 : Fr (fun j => j = q) W1 ((W1.setRow q ds).drew.setRow q es) := ((setRow_fr W1 q ds).drew).trans (setRow_fr (W1.setRow q ds).drew q es)
    exact hP1.step h1 (fun j e => by omega)
  have Hrz := Lib.hid hrz1
  have Hcp1 := Lib.hid hcp1
  have Hcp2 := Lib.hid hcp2
  subst hW1 hq
  have e1 : ((i : Int) == (n : Int)) = false := by simp; omega
  have e2 : ¬ (n = i) := by omega
  have e4 : decide ((n : Int) + 1 > (n : Int)) = true := by simp; omega
  have e5 : decide ((n : Int) < (n : Int) + 1) = true := by simp; omega
  have e6 : ¬ (G = i) := by omega
  have e7 : ¬ (G = i + 1) := by omega
  have hG63 : G ≤ 9223372036854775807 := hG2
  have hin : i ≤ n := by omega
  have hw1 : IntKind.i64.wrap ((i : Int) + 1) = (i : Int) + 1 := IntWalk.i64_in _ (by omega)
  have hw2 : IntKind.i64.wrap ((n : Int) + 1) = (n : Int) + 1 := IntWalk.i64_in _ (by omega)
  have hw3 : IntKind.i64.wrap ((n : Int) + 1 - (i : Int)) = (n : Int) + 1 - (i : Int) := IntWalk.i64_in _ (by omega)
  have hb1 : (0 : Int) ≤ (i : Int) + 1 := by omega
  have hb2 : (i : Int) + 1 ≤ (n : Int) + 1 := by omega
  have hb3 : (i : Int) ≤ (n : Int) + 1 := by omega
  have hb4 : (i : Int) ≤ (n : Int) := by omega
  have htn : ((i : Int) + 1).toNat = i + 1 := by omega
  clear hkk hes hesz hds hdsz hg hg2 hv htk hcs hrz1 hcp1 hcp2 hdl htl hl h hb hmin1 hmin2 hB1 hB2 hB3 hROW hRs hold hsum hzc
  go_enter Try.func65, Try.ntmps65
  go_wp2_with (first
    | (at_builtin; refine Lib.wpList_append_run _ rfl _ _ _ _ rfl _ _ rfl rfl _ _ (Hrz.out _) ?_)
    | (simp only [Hcp1.out]))
  go_region_law (refine step_builtin2 (S := Builtin.copy_) (fun _ _ _ _ => rfl) rfl (.tmp 50) (.tmp 53) _ rfl _ _ (by simp [Act.eval, Act.put]) (by simp [Act.eval, Act.put]) (Hcp2.out _ (G - (i + 1)) (n - i)) ?_)
  go_wp2
  go_ret
  exact ⟨_, _, rfl, hown, hpu.fr⟩

theorem insert_any (base : Nat) (A : Option Addr) (n c i vb : Nat) (l : List (Int × Int)) (k v : Int) (w : World) (h : w.ownsRow base 75 2 (.slice A n c) n (prs l)) (hi : i ≤ n) (hn : n ≤ 1000) (hbase : base ≤ w.heap.size)
    (hv : Blk w vb 75 #[.int .i64 k, .int .i64 v]) (hvA : ∀ a, A = some a → a.block ≠ vb) :
    Calls Try.prog 65 #[.slice A n c, .int .i64 i, .slice (some ⟨vb, 0, none⟩) 1 1] w (Inserted base A n c i l k v w) := by
  by_cases hin : i = n
  · subst hin
    exact insert_end base A i c vb l k v w h hn hbase hv
  · obtain ⟨g, cur, rfl, hb, hg, hnc, hcm, hcs, htk⟩ := own_blk h (by omega)
    by_cases hroom : n + 1 ≤ c
    · exact insert_room base g n c i vb l k v w h (by omega) hn hv (fun e => hvA _ rfl e.symm) hroom
    · obtain rfl : c = n := by omega
      exact insert_grow base g c i vb l k v w h (by omega) hn hbase hv
end Go.Proofs.Ytckfnbckoclhpaa
