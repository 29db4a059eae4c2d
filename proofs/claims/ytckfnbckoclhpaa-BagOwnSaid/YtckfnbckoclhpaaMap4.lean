/- Maps of int to int: slices.Delete. -/
import Derived.Test.YtckfnbckoclhpaaMap3
set_option linter.unusedVariables false
namespace Go.Proofs.Ytckfnbckoclhpaa
open Go.RowKit

theorem take_add_one_prs {l : List (Int × Int)} {cur : Array Value} {n : Nat} (h : cur.toList.take (n * 2) = prs l) {j : Nat} (hj : j < n * 2) : cur[j]? = (prs l)[j]? := by
  rw [← h, List.getElem?_take, if_pos hj]
  simp

set_option maxHeartbeats 1000000 in
set_option maxRecDepth 100000 in
theorem delete_any (base : Nat) (A : Option Addr) (n c i : Nat) (l : List (Int × Int)) (w : World) (h : w.ownsRow base 75 2 (.slice A n c) n (prs l)) (hi : i < n) (hn : n ≤ 1000) :
    Calls Try.prog 66 #[.slice A n c, .int .i64 i, .int .i64 ((i : Int) + 1)] w fun e w' => e = .returned (.slice A (n - 1) c) ∧
      w'.ownsRow base 75 2 (.slice A (n - 1) c) (n - 1) (prs (l.take i ++ l.drop (i + 1))) ∧ Fr (fun k => (Value.slice A n c).ownBlock = some k) w w' := by
  have hl : l.length = n := (Sl.of_own h).prs_len
  obtain ⟨g, cur, rfl, hb, hg, hnc, hcm, hcs, htk⟩ := own_blk h (by omega)
  have hcm2 : c ≤ 9223372036854775807 := hcm
  obtain ⟨i0, hi0, hz0, hzs, hzb⟩ := info_parts eiPair.info
  have hdl : (prs (l.drop (i + 1))).length = (n - (i + 1)) * 2 := by rw [prs_len]; simp [hl]
  obtain ⟨sa, hsa, hsa2⟩ : ∃ sa, (if c = i + 1 then some (⟨g, 0, none⟩ : Addr) else some ⟨g, (i + 1) * 2, none⟩) = some sa ∧ (c ≠ i + 1 → sa = ⟨g, (i + 1) * 2, none⟩) := by
    by_cases hc : c = i + 1
    · exact ⟨_, by rw [if_pos hc], fun h => absurd hc h⟩
    · exact ⟨_, by rw [if_neg hc], fun _ => rfl⟩
  have hsrc : ∀ j u, (prs (l.drop (i + 1)))[j]? = some u → w.drew.cell? (sa.add j) = some u := fun j u hu => by
    have hj := (List.getElem?_eq_some_iff.1 hu).1
    rw [hsa2 (by omega)]
    rw [Addr.add_lit, hg.drew.cell, take_add_one_prs htk (by omega)]
    rw [prs_drop, List.getElem?_drop] at hu
    exact hu
  obtain ⟨ds, hds⟩ : ∃ ds : Array Value, ds = (over cur.toList (i * 2) (prs (l.drop (i + 1)))).toArray := ⟨_, rfl⟩
  have hdsz : ds.size = c * 2 := by
    rw [hds, List.size_toArray, over_len _ _ _ (by rw [hdl, Array.length_toList]; omega), Array.length_toList, hcs]
  have happ : ∀ ty, (Builtin.append_ #[73, 73] ty #[.slice (some ⟨g, 0, none⟩) i c, .slice (some sa) (n - (i + 1)) (c - (i + 1))]).run Try.prog w.drew =
      .ok (.slice (some ⟨g, 0, none⟩) (n - 1) c) (w.drew.setRow g ds) := fun ty => by
    have := run_append_room (P := Try.prog) w.drew _ ty _ i0 eiPair.under hi0 g i c cur hg sa (n - (i + 1)) (c - (i + 1)) (prs (l.drop (i + 1))) (by rw [hdl, hzs]) hsrc (prs_one _) (by omega) (by rw [hzs, hdl]; omega)
    rw [this, hds, hzs, show i + (n - (i + 1)) = n - 1 by omega]
    rfl
  have hg2 : Blk (w.drew.setRow g ds) g 75 ds := setRow_blk hg.drew ds
  obtain ⟨zs, hzl⟩ : ∃ zs : List Value, zs = (Builtin.zeroCells (Value.agg #[Value.int .i64 0, .int .i64 0]).cells (n - (n - 1))).toList := ⟨_, rfl⟩
  have hzlen : zs.length = (n - (n - 1)) * 2 := by
    rw [hzl, Array.length_toList, size_zeroCells]
    rfl
  obtain ⟨es, hes⟩ : ∃ es : Array Value, es = (over ds.toList ((n - 1) * 2) zs).toArray := ⟨_, rfl⟩
  have hclr : ∀ ty, (Builtin.clear_ #[73] ty #[.slice (some ⟨g, (n - 1) * 2, none⟩) (n - (n - 1)) (c - (n - 1))]).run Try.prog (w.drew.setRow g ds) = .ok (.tuple #[]) ((w.drew.setRow g ds).setRow g es) := fun ty => by
    rw [hes, hzl]
    exact run_clear_blk (P := Try.prog) _ _ _ ty (.agg #[.int .i64 0, .int .i64 0]) 2 eiPair.under (fun w => by simp [zeroValue, typeInfo, hi0, hz0]) rfl (by simp [Value.cells, Value.oneCell']) g ((n - 1) * 2) (n - (n - 1)) (c - (n - 1)) (by omega) ds _ hg2 (by omega)
  have hg3 : Blk ((w.drew.setRow g ds).setRow g es) g 75 es := setRow_blk hg2 es
  have hesz : es.size = c * 2 := by
    rw [hes, List.size_toArray, over_len _ _ _ (by rw [hzlen, Array.length_toList]; omega), Array.length_toList, hdsz]
  have hown : ((w.drew.setRow g ds).setRow g es).ownsRow base 75 2 (.slice (some ⟨g, 0, none⟩) (n - 1) c) (n - 1) (prs (l.take i ++ l.drop (i + 1))) := by
    refine own_of_blk hb hg3 (by omega) hcm hesz (by rw [prs_len]; simp [hl]; omega) fun j hj => ?_
    have htl : (prs (l.take i)).length = i * 2 := by rw [prs_len]; simp [hl]; omega
    rw [hes, List.getElem?_toArray, over_get _ _ _ (by rw [hzlen, Array.length_toList]; omega), if_neg (by omega), Array.getElem?_toList, hds, List.getElem?_toArray, over_get _ _ _ (by rw [hdl, Array.length_toList]; omega), prs_append]
    by_cases c1 : j < i * 2
    · rw [if_neg (by omega), List.getElem?_append_left (by omega), Array.getElem?_toList, take_add_one_prs htk (by omega), prs_take, List.getElem?_take, if_pos c1]
    · rw [if_pos (by omega), List.getElem?_append_right (by omega), htl]
  have hfr : Fr (fun k => (Value.slice (some ⟨g, 0, none⟩) n c).ownBlock = some k) w ((w.drew.setRow g ds).setRow g es) := by
    have h1 := (Fr.refl (fun k => k = g) w).drew.trans (setRow_fr w.drew g ds)
    exact (h1.trans (setRow_fr _ g es)).mono (fun k _ e => by rw [e]; rfl)
  have hic : i ≤ c := by omega
  have hin : i + 1 ≤ n := by omega
  have hin2 : (i : Int) + 1 ≤ (n : Int) := by omega
  have h0i : (0 : Int) ≤ (i : Int) + 1 := by omega
  have hcn : ¬ (c = n - 1) := by omega
  have Hsa2 := Lib.hid hsa2
  have Hhap := Lib.hid happ
  have Hclr := Lib.hid hclr
  clear hsa2 hes hzl hzlen hds hdsz hesz hg2 hg3 hg htk hsrc hcs happ hclr hdl hl h hb
  have htn : ((i : Int) + 1).toNat = i + 1 := by omega
  have e1 : ((i : Int) == (i : Int) + 1) = false := by simp; omega
  go_enter Try.func66, Try.ntmps66
  go_wp2_with fail
  go_region_law (refine step_builtin2 (S := Builtin.append_) (fun _ _ _ _ => rfl) rfl (.tmp 22) (.tmp 25) _ rfl _ _ (by simp [Act.eval, Act.put]) (by simp [Act.eval, Act.put]) (Hhap.out _) ?_)
  go_wp2_with (simp only [Hclr.out])
  go_ret
  exact ⟨rfl, hown, hfr⟩
end Go.Proofs.Ytckfnbckoclhpaa
