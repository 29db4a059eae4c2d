/- A term in a name's place: (term.Term).Put. A term's value: (term.Term).Eval. A term in a name's place in a system: rows.Put. Do numbers meet a system: rows.Meets. -/
import Derived.Test.YtckfnbckoclhpaaGreatDoorE14
import Derived.Test.YtckfnbckoclhpaaGreatDoorE12
import Derived.Test.YtckfnbckoclhpaaGreatDoorE26
import Derived.Test.YtckfnbckoclhpaaGreatDoorE15
namespace Go.Proofs.YtckfnbckoclhpaaGreatDoor
section
set_option linter.unusedVariables false
set_option linter.unusedSimpArgs false
open Go.RowKit
def subT (fs : List (Key × Int)) (k : Key) (gs : List (Key × Int)) : List (Key × Int) := addM (addM fs [(k, 1)] (-(factor fs k))) gs (factor fs k)
structure PutOk (K G : Nat) (fs gs : List (Key × Int)) (r1 r2 : Int) : Prop where
  up1 : Upto K fs
  up2 : Upto G gs
  len : fs.length + 1 + gs.length < 30000
  b1 : K + 1100000 * K < 4294967296 ^ 30000
  b2 : K + K + 1100000 * (G * K) < 4294967296 ^ 30000
  bG : G < 4294967296 ^ 30000
  r1 : r1.natAbs < 4294967296 ^ 30000
  r2 : r2.natAbs < 4294967296 ^ 30000
theorem ten_le (a b : Nat) (h : a ≤ b) (B : Nat) (hb : b < B) : a < B := Nat.lt_of_le_of_lt h hb
set_option maxHeartbeats 4000000 in
set_option maxRecDepth 100000 in
theorem tput_any (v1 v2 : Value) (r1 r2 : Int) (fs gs : List (Key × Int)) (k : Key) (K G : Nat) (w : World) (h1 : TM w v1 r1 fs) (h2 : TM w v2 r2 gs) (ok : PutOk K G fs gs r1 r2) :
    Calls Tryz.prog 51 #[v1, .string ⟨k.toArray⟩, v2] w fun e w' => ∃ v, e = .returned v ∧ TMO w' w.heap.size v (r1 + r2 * factor fs k) (subT fs k gs) ∧ Pu w w' := by
  obtain ⟨ga, Aa, na, ca, ma, rfl⟩ := h1.shape
  obtain ⟨gb, Ab, nb, cb, mb, rfl⟩ := h2.shape
  obtain ⟨W, hWe⟩ : ∃ W, W = ((w.alloc (.cells #[.bool ga, .slice Aa na ca, .pointer ma] 33)).alloc (.cells #[.bool gb, .slice Ab nb cb, .pointer mb] 33)).alloc (.cells #[.bool false, .slice none 0 0, .pointer none] 33) := ⟨_, rfl⟩
  have hW : Pu w W := by rw [hWe]; exact (((Pu.refl w).alloc _).alloc _).alloc _
  have k3 : Blk W w.heap.size 33 #[.bool ga, .slice Aa na ca, .pointer ma] := by rw [hWe]; exact ((Blk.new w _ _).alloc _).alloc _
  have k5 : Blk W (w.heap.size + 1) 33 #[.bool gb, .slice Ab nb cb, .pointer mb] := by rw [hWe]; exact (Blk.at_new _ _ _ (by simp)).alloc _
  have k6 : Blk W (w.heap.size + 1 + 1) 33 #[.bool false, .slice none 0 0, .pointer none] := by rw [hWe]; exact Blk.at_new _ _ _ (by simp)
  have H1 := Lib.hid (h1.pu hW)
  have H2 := Lib.hid (h2.pu hW)
  have OK := Lib.hid ok
  have Hf := Lib.hid (fun V (p : Pu W V) => tfactor_any _ r1 k fs V (H1.out.pu p))
  have hfu := ok.up1.factor k
  have Hfu := Lib.hid hfu
  have hs3 : w.heap.size + 3 ≤ W.heap.size := by rw [hWe]; simp
  have HWe := Lib.hid hWe
  have c0 : W.cell? ⟨w.heap.size, 0, none⟩ = some (.bool ga) := k3.cell 0
  have c1 : W.cell? ⟨w.heap.size, 1, none⟩ = some (.slice Aa na ca) := k3.cell 1
  have c2 : W.cell? ⟨w.heap.size, 2, none⟩ = some (.pointer ma) := k3.cell 2
  clear hWe h1 h2 ok hfu
  go_enter Tryz.func51, Tryz.ntmps51
  go_wp2_with fail
  rw [← HWe.out]
  refine (Hf.out _ (Pu.refl W)).mono ?_
  rintro e w2 ⟨v, rfl, hz, p2⟩
  obtain ⟨gn, An, nn, cn, rfl⟩ := hz.shape2
  obtain ⟨V0, hVe⟩ : ∃ V0, V0 = w2.alloc (.cells #[.bool gn, .slice An nn cn] 30) := ⟨_, rfl⟩
  have pV0 : Pu W V0 := by rw [hVe]; exact p2.alloc _
  have k7 : Blk V0 w2.heap.size 30 #[.bool gn, .slice An nn cn] := by rw [hVe]; exact Blk.new _ _ _
  have hz0 : ZR V0 (.agg #[.bool gn, .slice An nn cn]) (factor fs k) := by rw [hVe]; exact hz.pu ((Pu.refl w2).alloc _)
  have hs7 : W.heap.size ≤ w2.heap.size := p2.size
  have HVe := Lib.hid hVe
  clear hVe hz c0 c1 c2
  go_wp2_with fail
  try rw [← HVe.out]
  have pd : Pu V0 V0.drew := (Pu.refl V0).drew
  have Hadd1 := Lib.hid (show ∀ V (hV : Pu V0 V) (a b : Value), TM V a 0 [(k, 1)] → ZR V b (-(factor fs k)) → Calls Tryz.prog 62 #[.agg #[.bool ga, .slice Aa na ca, .pointer ma], a, b] V fun e w' => ∃ v, e = .returned v ∧ TMO w' V.heap.size v (r1 + 0 * -(factor fs k)) (addM fs [(k, 1)] (-(factor fs k))) ∧ Pu V w' from fun V hV a b ha hb =>
    tadd_own _ _ _ r1 0 (-(factor fs k)) fs [(k, 1)] K K V (H1.out.pu (pV0.trans hV)) ha hb OK.out.up1 (fun g hg => by
      rw [List.mem_singleton.1 hg]
      rw [Int.one_mul, Int.natAbs_neg]
      exact Hfu.out) (by have := OK.out.len; simp; omega) OK.out.b1 (by
      rw [Int.natAbs_neg]
      exact ten_le _ _ (Nat.le_trans Hfu.out (Nat.le_add_right _ _)) _ OK.out.b1) (fun g hg => by
      rw [List.mem_singleton.1 hg]
      show (1 : Int).natAbs < _
      exact up_one (by decide)) OK.out.r1 up_zero)
  have Hadd2 := Lib.hid (show ∀ V (hV : Pu V0 V) (a : Value), TM V a (r1 + 0 * -(factor fs k)) (addM fs [(k, 1)] (-(factor fs k))) → Calls Tryz.prog 62 #[a, .agg #[.bool gb, .slice Ab nb cb, .pointer mb], .agg #[.bool gn, .slice An nn cn]] V fun e w' => ∃ v, e = .returned v ∧ TMO w' V.heap.size v (r1 + 0 * -(factor fs k) + r2 * factor fs k) (subT fs k gs) ∧ Pu V w' from fun V hV a ha =>
    tadd_own _ _ _ (r1 + 0 * -(factor fs k)) r2 (factor fs k) (addM fs [(k, 1)] (-(factor fs k))) gs (K + K) (G * K) V ha (H2.out.pu (pV0.trans hV)) (hz0.pu hV) (addStep_upto OK.out.up1 (by
      rw [Int.one_mul, Int.natAbs_neg]
      exact Hfu.out)) (fun g hg => by
      rw [Int.natAbs_mul]
      exact Nat.mul_le_mul (OK.out.up2 g hg) Hfu.out) (by
      have h1 := addM_len (n := -(factor fs k)) [(k, (1 : Int))] fs
      have h2 := OK.out.len
      have h3 : [(k, (1 : Int))].length = 1 := rfl
      omega) OK.out.b2 (ten_le _ _ (Nat.le_trans Hfu.out (Nat.le_add_right _ _)) _ OK.out.b1) (fun g hg => ten_le _ _ (OK.out.up2 g hg) _ OK.out.bG) (by rw [Int.zero_mul, Int.add_zero]; exact OK.out.r1) OK.out.r2)
  refine wp_region_stableA2 8 (fun _ w => Pu V0 w) (fun _ => Pu) (fun io => match io with | 0 => fun vv_ _ => vv_ = .agg #[.bool ga, .slice Aa na ca, .pointer ma] | 1 => fun vv_ _ => vv_ = .string ⟨k.toArray⟩ | 2 => fun v w => ∃ g A n c m, v = .agg #[.bool g, .slice A n c, .pointer m] ∧ TM w (.agg #[.bool g, .slice A n c, .pointer m]) 0 [(k, 1)] | 3 => fun vv_ _ => vv_ = .agg #[.bool gn, .slice An nn cn] | 4 => fun v w => ∃ g A n c, v = .agg #[.bool g, .slice A n c] ∧ ZR w (.agg #[.bool g, .slice A n c]) (-(factor fs k)) | 5 => fun v w => ∃ g A n c m, v = .agg #[.bool g, .slice A n c, .pointer m] ∧ TM w (.agg #[.bool g, .slice A n c, .pointer m]) (r1 + 0 * -(factor fs k)) (addM fs [(k, 1)] (-(factor fs k))) | 6 => fun vv_ _ => vv_ = .agg #[.bool gb, .slice Ab nb cb, .pointer mb] | 7 => fun vv_ _ => vv_ = .agg #[.bool gn, .slice An nn cn] | _ => fun _ _ => True) [some 11, some 12, some 13, some 14, some 15, some 16, some 17, some 18] (by kernel_rfl) (by kernel_rfl) rfl pd ?_ ?_ ?_ ?_
  · intro ko lst u u' hk hLk hI hR
    exact hI.trans hR
  · intro io ko v u u' hi hk hik h hR0
    have hR := hR0
    match io, hi, hik, h with
    | 0, _, _, h => exact h
    | 1, _, _, h => exact h
    | 2, _, hik, h =>
      replace h : ∃ g A n c m, v = .agg #[.bool g, .slice A n c, .pointer m] ∧ TM u (.agg #[.bool g, .slice A n c, .pointer m]) 0 [(k, 1)] := h
      obtain ⟨g, A, n, c, m, e, h⟩ := h
      exact ⟨g, A, n, c, m, e, h.pu hR⟩
    | 3, _, _, h => exact h
    | 4, _, hik, h =>
      replace h : ∃ g A n c, v = .agg #[.bool g, .slice A n c] ∧ ZR u (.agg #[.bool g, .slice A n c]) (-(factor fs k)) := h
      obtain ⟨g, A, n, c, e, h⟩ := h
      exact ⟨g, A, n, c, e, h.pu hR⟩
    | 5, _, hik, h =>
      replace h : ∃ g A n c m, v = .agg #[.bool g, .slice A n c, .pointer m] ∧ TM u (.agg #[.bool g, .slice A n c, .pointer m]) (r1 + 0 * -(factor fs k)) (addM fs [(k, 1)] (-(factor fs k))) := h
      obtain ⟨g, A, n, c, m, e, h⟩ := h
      exact ⟨g, A, n, c, m, e, h.pu hR⟩
    | 6, _, _, h => exact h
    | 7, _, _, h => exact h
    | _ + 8, hi, _, _ => exact absurd hi (by omega)
  · refine StepsS.cons [] rfl (by kernel_rfl) (fun y lst V hLk hV hp K hK => ?_) ?_
    · try dsimp only at hK
      simp only [putsL, upd, Act.put, List.setIfInBounds_toArray, List.set_cons_zero, List.set_cons_succ, Nat.reduceEqDiff, Nat.succ_ne_zero, Nat.reduceAdd, zero_ne_one_, one_ne_zero_, reduceIte] at hK ⊢
      clear hp
      try dsimp only at hV
      have x0 := (k3.pu (pV0.trans hV)).cell 0
      have x1 := (k3.pu (pV0.trans hV)).cell 1
      have x2 := (k3.pu (pV0.trans hV)).cell 2
      go_simp
      exact hK.out _ _ (Pu.refl _) rfl
    refine StepsS.cons [] rfl (by kernel_rfl) (fun y lst V hLk hV hp K hK => ?_) ?_
    · try dsimp only at hK
      simp only [putsL, upd, Act.put, List.setIfInBounds_toArray, List.set_cons_zero, List.set_cons_succ, Nat.reduceEqDiff, Nat.succ_ne_zero, Nat.reduceAdd, zero_ne_one_, one_ne_zero_, reduceIte] at hK ⊢
      clear hp
      try dsimp only at hV
      go_simp
      exact hK.out _ _ (Pu.refl _) rfl
    refine StepsS.cons [1] rfl (by kernel_rfl) (fun y lst V hLk hV hp K hK => ?_) ?_
    · try dsimp only at hK
      simp only [putsL, upd, Act.put, List.setIfInBounds_toArray, List.set_cons_zero, List.set_cons_succ, Nat.reduceEqDiff, Nat.succ_ne_zero, Nat.reduceAdd, zero_ne_one_, one_ne_zero_, reduceIte] at hK ⊢
      have e1 := hp 1 (by simp)
      clear hp
      try dsimp only at hV e1
      generalize y 1 = z1 at hK e1 ⊢
      subst e1
      go_simp
      go_at_call 26
      refine (tname_any k _).mono ?_
      rintro e u1 ⟨v, rfl, h13, p1⟩
      obtain ⟨g, A, n, c, m, rfl⟩ := h13.shape
      go_wp2_with fail
      exact hK.out _ _ p1 ⟨g, A, n, c, m, rfl, h13⟩
    refine StepsS.cons [] rfl (by kernel_rfl) (fun y lst V hLk hV hp K hK => ?_) ?_
    · try dsimp only at hK
      simp only [putsL, upd, Act.put, List.setIfInBounds_toArray, List.set_cons_zero, List.set_cons_succ, Nat.reduceEqDiff, Nat.succ_ne_zero, Nat.reduceAdd, zero_ne_one_, one_ne_zero_, reduceIte] at hK ⊢
      clear hp
      try dsimp only at hV
      have x0 := (k7.pu hV).cell 0
      have x1 := (k7.pu hV).cell 1
      go_simp
      exact hK.out _ _ (Pu.refl _) rfl
    refine StepsS.cons [3] rfl (by kernel_rfl) (fun y lst V hLk hV hp K hK => ?_) ?_
    · try dsimp only at hK
      simp only [putsL, upd, Act.put, List.setIfInBounds_toArray, List.set_cons_zero, List.set_cons_succ, Nat.reduceEqDiff, Nat.succ_ne_zero, Nat.reduceAdd, zero_ne_one_, one_ne_zero_, reduceIte] at hK ⊢
      have e3 := hp 3 (by simp)
      clear hp
      try dsimp only at hV e3
      generalize y 3 = z3 at hK e3 ⊢
      subst e3
      go_simp
      go_at_call 84
      refine (neg_any _ (factor fs k) _ (hz0.pu hV) (up_from (n := (factor fs k).natAbs) (a := 30000) (b := 40000) (ten_le _ _ (Nat.le_trans Hfu.out (Nat.le_add_right _ _)) _ OK.out.b1) (by decide))).mono ?_
      rintro e u1 ⟨v, rfl, h15, p1⟩
      obtain ⟨g, A, n, c, rfl⟩ := h15.shape2
      go_wp2_with fail
      exact hK.out _ _ p1 ⟨g, A, n, c, rfl, h15⟩
    refine StepsS.cons [0, 2, 4] rfl (by kernel_rfl) (fun y lst V hLk hV hp K hK => ?_) ?_
    · try dsimp only at hK
      simp only [putsL, upd, Act.put, List.setIfInBounds_toArray, List.set_cons_zero, List.set_cons_succ, Nat.reduceEqDiff, Nat.succ_ne_zero, Nat.reduceAdd, zero_ne_one_, one_ne_zero_, reduceIte] at hK ⊢
      have e0 := hp 0 (by simp)
      have h13 := hp 2 (by simp)
      have h15 := hp 4 (by simp)
      clear hp
      try dsimp only at hV e0 h13 h15
      generalize y 0 = z0 at hK e0 ⊢
      generalize y 2 = z2 at hK h13 ⊢
      generalize y 4 = z4 at hK h15 ⊢
      subst e0
      obtain ⟨g1, A1, n1, c1, m1, rfl, h13⟩ := h13
      obtain ⟨g2, A2, n2, c2, rfl, h15⟩ := h15
      go_simp
      go_at_call 62
      refine (Hadd1.out _ hV _ _ h13 h15).mono ?_
      rintro e u1 ⟨v, rfl, h16, p1⟩
      obtain ⟨g, A, n, c, m, rfl⟩ := h16.tm.shape
      go_wp2_with fail
      exact hK.out _ _ p1 ⟨g, A, n, c, m, rfl, h16.tm⟩
    refine StepsS.cons [] rfl (by kernel_rfl) (fun y lst V hLk hV hp K hK => ?_) ?_
    · try dsimp only at hK
      simp only [putsL, upd, Act.put, List.setIfInBounds_toArray, List.set_cons_zero, List.set_cons_succ, Nat.reduceEqDiff, Nat.succ_ne_zero, Nat.reduceAdd, zero_ne_one_, one_ne_zero_, reduceIte] at hK ⊢
      clear hp
      try dsimp only at hV
      have x0 := (k5.pu (pV0.trans hV)).cell 0
      have x1 := (k5.pu (pV0.trans hV)).cell 1
      have x2 := (k5.pu (pV0.trans hV)).cell 2
      go_simp
      exact hK.out _ _ (Pu.refl _) rfl
    refine StepsS.cons [] rfl (by kernel_rfl) (fun y lst V hLk hV hp K hK => ?_) ?_
    · try dsimp only at hK
      simp only [putsL, upd, Act.put, List.setIfInBounds_toArray, List.set_cons_zero, List.set_cons_succ, Nat.reduceEqDiff, Nat.succ_ne_zero, Nat.reduceAdd, zero_ne_one_, one_ne_zero_, reduceIte] at hK ⊢
      clear hp
      try dsimp only at hV
      have x0 := (k7.pu hV).cell 0
      have x1 := (k7.pu hV).cell 1
      go_simp
      exact hK.out _ _ (Pu.refl _) rfl
    exact StepsS.nil
  · intro y V lst hL hV hp
    have f0 := hp 0 (by decide)
    have f1 := hp 1 (by decide)
    have f2 := hp 2 (by decide)
    have f3 := hp 3 (by decide)
    have f4 := hp 4 (by decide)
    have f5 := hp 5 (by decide)
    have f6 := hp 6 (by decide)
    have f7 := hp 7 (by decide)
    clear hp
    try dsimp only at hV f0 f1 f2 f3 f4 f5 f6 f7
    simp only [putsL, upd, Act.put, List.setIfInBounds_toArray, List.set_cons_zero, List.set_cons_succ, Nat.reduceEqDiff, Nat.succ_ne_zero, Nat.reduceAdd, zero_ne_one_, one_ne_zero_, reduceIte]
    generalize y 0 = z0 at f0 ⊢
    generalize y 1 = z1 at f1 ⊢
    generalize y 2 = z2 at f2 ⊢
    generalize y 3 = z3 at f3 ⊢
    generalize y 4 = z4 at f4 ⊢
    generalize y 5 = z5 at f5 ⊢
    generalize y 6 = z6 at f6 ⊢
    generalize y 7 = z7 at f7 ⊢
    subst f0
    subst f1
    subst f3
    subst f6
    subst f7
    obtain ⟨g3, A3, n3, c3, m3, rfl, f5⟩ := f5
    clear f2 f4
    go_wp2_with fail
    refine (Hadd2.out _ hV _ f5).mono ?_
    rintro e u1 ⟨v, rfl, hT, p1⟩
    obtain ⟨g, A, n, c, m, rfl⟩ := hT.tm.shape
    have hP : Pu W u1 := pV0.trans (hV.trans p1)
    have kR := k6.pu hP
    have hsV : w.heap.size ≤ V.heap.size := Nat.le_trans hW.size (Nat.le_trans pV0.size hV.size)
    have x0 := kR.cell 0
    have fx0 := kR.frozen 0
    have x1 := kR.cell 1
    have fx1 := kR.frozen 1
    have x2 := kR.cell 2
    have fx2 := kR.frozen 2
    obtain ⟨kR2, eR⟩ := over_3 kR (.bool g) (.slice A n c) (.pointer m)
    have r0 := kR2.cell 0
    have r1 := kR2.cell 1
    have r2 := kR2.cell 2
    have hT2 := hT.frT eR (fun j hj => by
      have e' : j = w.heap.size + 1 + 1 := hj
      have := pV0.size
      have := hV.size
      omega) (typed_blk1 kR (by decide))
    have hP2 := (hW.trans hP).step eR (fun j hj => by
      have e' : j = w.heap.size + 1 + 1 := hj
      omega)
    have HF := Lib.hid (And.intro (hT2.base_ hsV) hP2)
    clear hT2 hP2 kR2 kR eR hT hsV
    go_wp2
    exact bodyPost_ret (v := .agg #[.bool g, .slice A n c, .pointer m]) (by simp [results, Tryz.results51, go_sem, r0, r1, r2]) rfl ⟨_, rfl, (by have h := HF.out.1; rw [Int.zero_mul, Int.add_zero] at h; exact h), HF.out.2⟩
end
section
set_option linter.unusedVariables false
set_option linter.unusedSimpArgs false
open Go.RowKit
def VM (w : World) (b : Nat) (gs : List (Key × Int)) : Prop := ∃ L, MRZ w b L ∧ HoldM w L gs
theorem VM.pu {w w' : World} {b : Nat} {gs : List (Key × Int)} (h : VM w b gs) (p : Pu w w') : VM w' b gs := by
  obtain ⟨L, h1, h2⟩ := h
  exact ⟨L, h1.pu p, h2.pu p⟩
def evalM (gs : List (Key × Int)) : Int → List (Key × Int) → Option Int
  | a, [] => some a
  | a, f :: fs => if there gs f.1 then evalM gs (a + factor gs f.1 * f.2) fs else none
theorem evalM_next {gs fs : List (Key × Int)} {a : Int} {i : Nat} {k : Key} {z : Int} (h : fs[i]? = some (k, z)) : evalM gs a (fs.drop i) = if there gs k then evalM gs (a + factor gs k * z) (fs.drop (i + 1)) else none := by
  have hlt := (List.getElem?_eq_some_iff.1 h).1
  have e : fs.drop i = (k, z) :: fs.drop (i + 1) := by
    rw [List.drop_eq_getElem_cons hlt]
    congr 1
    have := List.getElem?_eq_getElem hlt
    rw [h] at this
    exact (Option.some.inj this).symm
  rw [e]
  rfl
structure EvalOk (R0 K G : Nat) (rest : Int) (fs gs : List (Key × Int)) : Prop where
  r : rest.natAbs ≤ R0
  up1 : Upto K fs
  up2 : Upto G gs
  b : R0 + 1100000 * (G * K) < 4294967296 ^ 30000
  bK : K < 4294967296 ^ 30000
  bG : G < 4294967296 ^ 30000
def EvalPost (o : Option Int) (e : Ending) (w' : World) : Prop :=
  (∃ z v, o = some z ∧ e = .returned (.tuple #[v, .int .i64 0]) ∧ ZR w' v z) ∨ (o = none ∧ e = .returned (.tuple #[.agg #[.bool false, .slice none 0 0], .int .i64 31]))
theorem eval_room {R0 M i : Nat} {a x : Int} (ha : a.natAbs ≤ R0 + i * M) (hx : x.natAbs ≤ M) : (a + x).natAbs ≤ R0 + (i + 1) * M := by
  rw [Nat.succ_mul]
  omega
set_option maxHeartbeats 4000000 in
set_option maxRecDepth 100000 in
theorem teval_any (v : Value) (rest : Int) (fs gs : List (Key × Int)) (vb R0 K G : Nat) (w : World) (h : TM w v rest fs) (hv : VM w vb gs) (ok : EvalOk R0 K G rest fs gs) :
    Calls Tryz.prog 18 #[v, .pointer (some ⟨vb, 0, none⟩)] w fun e w' => EvalPost (evalM gs rest fs) e w' ∧ Pu w w' := by
  obtain ⟨g, A, n, c, m, rfl⟩ := h.shape
  obtain ⟨W, hWe⟩ : ∃ W, W = ((w.alloc (.cells #[.bool g, .slice A n c, .pointer m] 33)).alloc (.cells #[.bool false, .slice none 0 0] 30)).alloc (.cells #[.bool g, .slice A n c] 30) := ⟨_, rfl⟩
  have pW : Pu w W := by rw [hWe]; exact (((Pu.refl w).alloc _).alloc _).alloc _
  have k2 : Blk W w.heap.size 33 #[.bool g, .slice A n c, .pointer m] := by rw [hWe]; exact ((Blk.new w _ _).alloc _).alloc _
  have k4 : Blk W (w.heap.size + 1) 30 #[.bool false, .slice none 0 0] := by rw [hWe]; exact (Blk.at_new _ _ _ (by simp)).alloc _
  have k6 : Blk W (w.heap.size + 1 + 1) 30 #[.bool g, .slice A n c] := by rw [hWe]; exact Blk.at_new _ _ _ (by simp)
  have hsz : W.heap.size = w.heap.size + 3 := by rw [hWe]; simp
  have Hp := Lib.hid (tpairs_any _ _ _ _ (h.pu pW))
  have hz6 : ZR W (.agg #[.bool g, .slice A n c]) rest := h.rest_.pu pW
  rw [hWe] at Hp
  have HWe := Lib.hid hWe
  have OK := Lib.hid ok
  have HV := Lib.hid hv
  have hR0 := ok.r
  clear hWe h hv ok
  go_enter Tryz.func18, Tryz.ntmps18
  go_wp2_with fail
  refine Hp.out.mono ?_
  rintro e Wp ⟨A4, n4, c4, LG, rfl, hSl, hn4, hHG, hB4, p2⟩
  rw [← HWe.out] at p2 hB4
  have j4 := k4.pu p2
  have j6 := k6.pu p2
  have hz6p := hz6.pu p2
  have hsz2 := p2.size
  have PW := pW.trans p2
  have hLG : LG.length = n4 := lenZ hSl
  clear p2 k2 k4 k6 Hp HWe hz6
  go_wp2_with fail
  go_loopw [16] (fun iv wr => ∃ (i : Nat) (g6 : Bool) (A6 : Option Addr) (n6 c6 : Nat) (a : Int), i ≤ n4 ∧ iv = .int .i64 (i : Int) ∧ Blk wr (w.heap.size + 1 + 1) 30 #[.bool g6, .slice A6 n6 c6] ∧ ZR wr (.agg #[.bool g6, .slice A6 n6 c6]) a ∧ Hid (evalM gs rest fs = evalM gs a (fs.drop i)) ∧ a.natAbs ≤ R0 + i * (G * K) ∧ Fr (fun j => j = w.heap.size + 1 + 1) Wp wr) (fun iv _ => n4 - (intOf iv).toNat)
  case atStart => exact ⟨0, g, A, n, c, rest, Nat.zero_le _, rfl, j6, hz6p, Lib.hid rfl, by simpa using hR0, Fr.refl _ _⟩
  case round =>
    obtain ⟨i, g6, A6, n6, c6, a, hi, rfl, l6, hza, hev, hab, hF⟩ := hrel
    have hsr := hF.size
    have hPr : Pu w wr := PW.step hF (fun j hj => by
      have e' : j = w.heap.size + 1 + 1 := hj
      omega)
    have l4 := j4.fr hF (by omega)
    by_cases hil : i < n4
    · obtain ⟨p, hp⟩ : ∃ p, LG[i]? = some p := ⟨_, List.getElem?_eq_getElem (by omega)⟩
      obtain ⟨gg, hgi⟩ : ∃ g, fs[i]? = some g := ⟨_, List.getElem?_eq_getElem (by rw [← hHG.1]; omega)⟩
      obtain ⟨k, qg, qA, qn, qc⟩ := p
      obtain ⟨k', z⟩ := gg
      obtain ⟨ek, hq⟩ := hHG.2 i _ _ hp hgi
      dsimp only at ek hq
      subst ek
      have hS4 : Sl wr 3 A4 n4 c4 (kps vcZ LG) := hSl.fr hF (fun _ b' off e hS => by
        have h5 := hB4 b' off e
        omega)
      obtain ⟨bb, off, rfl, hbl, x0, x1, x2⟩ := atZ hS4 hp
      have hq4 : ZR wr (.agg #[.bool qg, .slice qA qn qc]) z := hq.frT hF (typed_blk1 j6 (by decide))
      have hnx := Lib.hid (hev.out.trans (evalM_next (gs := gs) (a := a) hgi))
      obtain ⟨X, hXe⟩ : ∃ X, X = wr.alloc (.cells #[.string ⟨k.toArray⟩, .bool qg, .slice qA qn qc] 119) := ⟨_, rfl⟩
      have pX : Pu wr X := by rw [hXe]; exact (Pu.refl wr).alloc _
      have k8 : Blk X wr.heap.size 119 #[.string ⟨k.toArray⟩, .bool qg, .slice qA qn qc] := by rw [hXe]; exact Blk.new _ _ _
      obtain ⟨L, hL1, hL2⟩ := HV.out
      have hrise := hL1.rise
      have hget := getZ vb L k X (hL1.pu (hPr.trans pX))
      have hgz := (hL2.get (k := k) hrise).pu (hPr.trans pX)
      have hth : there L k = there gs k := there_keys L gs k hL2.keys
      rw [hth] at hget
      obtain ⟨vv, hvv⟩ : ∃ vv, gvZ L k = vv := ⟨_, rfl⟩
      rw [hvv] at hget hgz
      clear hvv hL1 hL2 hrise hth
      obtain ⟨g9, A9, n9, c9, rfl⟩ := hgz.shape2
      obtain ⟨bt, hbt⟩ : ∃ bt, there gs k = bt := ⟨_, rfl⟩
      rw [hbt] at hget
      have HBT := Lib.hid hbt
      rw [hXe] at hget
      have Hget := Lib.hid hget
      have HXe := Lib.hid hXe
      have Hzb := Lib.hid (OK.out.up1 _ (List.mem_of_getElem? hgi))
      have hwi : IntKind.i64.wrap ((i : Int) + 1) = (i : Int) + 1 := IntWalk.i64_in _ (by omega)
      have y4 := (l4.pu pX)
      have y6 := (l6.pu pX)
      clear hget hbt hXe hp hgi hq
      cases bt with
      | false =>
        go_wp2_with fail
        refine Hget.out.mono ?_
        rintro e w3 ⟨rfl, p3⟩
        rw [← HXe.out] at p3
        have z4 := (y4.pu p3).alloc (.cells #[.bool g9, .slice A9 n9 c9] 30)
        have a0 := z4.cell 0
        have a1 := z4.cell 1
        have b0 := z4.frozen 0
        have b1 := z4.frozen 1
        obtain ⟨kR, eR⟩ := over_2 z4 (.bool false) (.slice none 0 0)
        have r0 := kR.cell 0
        have r1 := kR.cell 1
        have hP := (((hPr.trans pX).trans p3).alloc (.cells #[.bool g9, .slice A9 n9 c9] 30)).step eR (fun j hj => by
          have e' : j = w.heap.size + 1 := hj
          omega)
        have HP := Lib.hid hP
        clear hP eR kR z4 p3
        go_wp2
        exact bodyPost_ret (v := .tuple #[.agg #[.bool false, .slice none 0 0], .int .i64 31]) (by simp [results, Tryz.results18, go_sem, r0, r1]) rfl ⟨.inr ⟨by rw [hnx.out, HBT.out]; rfl, rfl⟩, HP.out⟩
      | true =>
        have hnx2 := Lib.hid (show evalM gs rest fs = evalM gs (a + factor gs k * z) (fs.drop (i + 1)) by rw [hnx.out, HBT.out]; rfl)
        clear hnx
        go_wp2_with fail
        refine Hget.out.mono ?_
        rintro e w3 ⟨rfl, p3⟩
        rw [← HXe.out] at p3
        obtain ⟨V0, hVe⟩ : ∃ V0, V0 = w3.alloc (.cells #[.bool g9, .slice A9 n9 c9] 30) := ⟨_, rfl⟩
        have pV : Pu X V0 := by rw [hVe]; exact p3.alloc _
        have k9 : Blk V0 w3.heap.size 30 #[.bool g9, .slice A9 n9 c9] := by rw [hVe]; exact Blk.new _ _ _
        have m6 := y6.pu pV
        have m8 := k8.pu pV
        have z9 := hgz.pu pV
        have zq := hq4.pu (pX.trans pV)
        have za := hza.pu (pX.trans pV)
        have hbf : (factor gs k).natAbs ≤ G := OK.out.up2.factor k
        have hbm : (factor gs k * z).natAbs ≤ G * K := by rw [Int.natAbs_mul]; exact Nat.mul_le_mul hbf Hzb.out
        have hab2 := eval_room hab hbm
        have hi4 : i ≤ 1100000 := by omega
        have HB := Lib.hid (And.intro hbf (And.intro hbm (And.intro hab hi4)))
        have HVe := Lib.hid hVe
        have hXs := pX.size
        have hVs := pV.size
        clear hVe hbf hbm hab hi4 hgz hq4 hza y4 y6 k8 p3
        go_wp2_with fail
        try rw [← HVe.out]
        have pd : Pu V0 V0.drew := (Pu.refl V0).drew
        have Hmul := Lib.hid (show ∀ V (hV : Pu V0 V), Calls Tryz.prog 50 #[.agg #[.bool g9, .slice A9 n9 c9], .agg #[.bool qg, .slice qA qn qc]] V fun e w' => ∃ v', e = .returned v' ∧ ZR w' v' (factor gs k * z) ∧ Pu V w' from fun V hV => mul_any _ _ (factor gs k) z V (z9.pu hV) (zq.pu hV)
          (up_from (n := (factor gs k).natAbs) (a := 30000) (b := 90000) (ten_le _ _ HB.out.1 _ OK.out.bG) (by decide)) (up_from (n := z.natAbs) (a := 30000) (b := 90000) (ten_le _ _ Hzb.out _ OK.out.bK) (by decide)))
        have hroom : R0 + i * (G * K) < 4294967296 ^ 30000 := ten_le _ _ (Nat.add_le_add_left (Nat.mul_le_mul_right _ HB.out.2.2.2) _) _ OK.out.b
        have hroom2 : G * K < 4294967296 ^ 30000 := ten_le _ _ (Nat.le_trans (Nat.le_mul_of_pos_left _ (by decide)) (Nat.le_add_left _ _)) _ OK.out.b
        have Hadd := Lib.hid (show ∀ V (hV : Pu V0 V) (q : Nat) (gq : Bool) (Aq : Option Addr) (nq cq : Nat), ZR V (.agg #[.bool gq, .slice Aq nq cq]) (factor gs k * z) → Blk V q 30 #[.bool gq, .slice Aq nq cq] → Calls Tryz.prog 49 #[.agg #[.bool g6, .slice A6 n6 c6], .slice (some ⟨q, 0, none⟩) 1 1] V fun e w' => ∃ v', e = .returned v' ∧ ZR w' v' (a + factor gs k * z) ∧ Pu V w' from fun V hV q gq Aq nq cq h1 h2 => addv_any _ _ a (factor gs k * z) q V (za.pu hV) h1
          (up_from (n := a.natAbs) (a := 30000) (b := 90000) (ten_le _ _ HB.out.2.2.1 _ hroom) (by decide)) (up_from (n := (factor gs k * z).natAbs) (a := 30000) (b := 90000) (ten_le _ _ HB.out.2.1 _ hroom2) (by decide)) h2)
        clear hroom hroom2
        refine wp_region_stableA2 6 (fun _ w => Pu V0 w) (fun _ => Pu) (fun io => match io with | 0 => fun vv_ _ => vv_ = .agg #[.bool g6, .slice A6 n6 c6] | 1 => fun vv_ _ => vv_ = .agg #[.bool g9, .slice A9 n9 c9] | 2 => fun vv_ _ => vv_ = .pointer (some ⟨wr.heap.size, 1, none⟩) | 3 => fun vv_ _ => vv_ = .agg #[.bool qg, .slice qA qn qc] | 4 => fun v w => ∃ g A n c, v = .agg #[.bool g, .slice A n c] ∧ ZR w (.agg #[.bool g, .slice A n c]) (factor gs k * z) | 5 => fun v w => ∃ q g A n c, v = .slice (some ⟨q, 0, none⟩) 1 1 ∧ Blk w q 30 #[.bool g, .slice A n c] ∧ ZR w (.agg #[.bool g, .slice A n c]) (factor gs k * z) | _ => fun _ _ => True) [some 30, some 31, some 32, some 33, some 34, some 35] (by kernel_rfl) (by kernel_rfl) rfl pd ?_ ?_ ?_ ?_
        · intro ko lst u u' hk hLk hI hR
          exact hI.trans hR
        · intro io ko v u u' hi hk hik h hR0
          have hR := hR0
          match io, hi, hik, h with
          | 0, _, _, h => exact h
          | 1, _, _, h => exact h
          | 2, _, _, h => exact h
          | 3, _, _, h => exact h
          | 4, _, hik, h =>
            replace h : ∃ g A n c, v = .agg #[.bool g, .slice A n c] ∧ ZR u (.agg #[.bool g, .slice A n c]) (factor gs k * z) := h
            obtain ⟨g, A, n, c, e, h⟩ := h
            exact ⟨g, A, n, c, e, h.pu hR⟩
          | 5, _, hik, h =>
            replace h : ∃ q g A n c, v = .slice (some ⟨q, 0, none⟩) 1 1 ∧ Blk u q 30 #[.bool g, .slice A n c] ∧ ZR u (.agg #[.bool g, .slice A n c]) (factor gs k * z) := h
            obtain ⟨q, g, A, n, c, e, h, h'⟩ := h
            exact ⟨q, g, A, n, c, e, h.pu hR, h'.pu hR⟩
          | _ + 6, hi, _, _ => exact absurd hi (by omega)
        · refine StepsS.cons [] rfl (by kernel_rfl) (fun y lst V hLk hV hp K hK => ?_) ?_
          · try dsimp only at hK
            simp only [putsL, upd, Act.put, List.setIfInBounds_toArray, List.set_cons_zero, List.set_cons_succ, Nat.reduceEqDiff, Nat.succ_ne_zero, Nat.reduceAdd, zero_ne_one_, one_ne_zero_, reduceIte] at hK ⊢
            clear hp
            try dsimp only at hV
            have x0 := (m6.pu hV).cell 0
            have x1 := (m6.pu hV).cell 1
            go_simp
            exact hK.out _ _ (Pu.refl _) rfl
          refine StepsS.cons [] rfl (by kernel_rfl) (fun y lst V hLk hV hp K hK => ?_) ?_
          · try dsimp only at hK
            simp only [putsL, upd, Act.put, List.setIfInBounds_toArray, List.set_cons_zero, List.set_cons_succ, Nat.reduceEqDiff, Nat.succ_ne_zero, Nat.reduceAdd, zero_ne_one_, one_ne_zero_, reduceIte] at hK ⊢
            clear hp
            try dsimp only at hV
            have x0 := (k9.pu hV).cell 0
            have x1 := (k9.pu hV).cell 1
            go_simp
            exact hK.out _ _ (Pu.refl _) rfl
          refine StepsS.cons [] rfl (by kernel_rfl) (fun y lst V hLk hV hp K hK => ?_) ?_
          · try dsimp only at hK
            simp only [putsL, upd, Act.put, List.setIfInBounds_toArray, List.set_cons_zero, List.set_cons_succ, Nat.reduceEqDiff, Nat.succ_ne_zero, Nat.reduceAdd, zero_ne_one_, one_ne_zero_, reduceIte] at hK ⊢
            clear hp
            try dsimp only at hV
            go_simp
            exact hK.out _ _ (Pu.refl _) rfl
          refine StepsS.cons [2] rfl (by kernel_rfl) (fun y lst V hLk hV hp K hK => ?_) ?_
          · try dsimp only at hK
            simp only [putsL, upd, Act.put, List.setIfInBounds_toArray, List.set_cons_zero, List.set_cons_succ, Nat.reduceEqDiff, Nat.succ_ne_zero, Nat.reduceAdd, zero_ne_one_, one_ne_zero_, reduceIte] at hK ⊢
            have e2 := hp 2 (by simp)
            clear hp
            try dsimp only at hV e2
            generalize y 2 = z2 at hK e2 ⊢
            subst e2
            have x0 := (m8.pu hV).cell 0
            have x1 := (m8.pu hV).cell 1
            have x2 := (m8.pu hV).cell 2
            go_simp
            exact hK.out _ _ (Pu.refl _) rfl
          refine StepsS.cons [1, 3] rfl (by kernel_rfl) (fun y lst V hLk hV hp K hK => ?_) ?_
          · try dsimp only at hK
            simp only [putsL, upd, Act.put, List.setIfInBounds_toArray, List.set_cons_zero, List.set_cons_succ, Nat.reduceEqDiff, Nat.succ_ne_zero, Nat.reduceAdd, zero_ne_one_, one_ne_zero_, reduceIte] at hK ⊢
            have e1 := hp 1 (by simp)
            have e3 := hp 3 (by simp)
            clear hp
            try dsimp only at hV e1 e3
            generalize y 1 = z1 at hK e1 ⊢
            generalize y 3 = z3 at hK e3 ⊢
            subst e1
            subst e3
            go_simp
            go_at_call 50
            refine (Hmul.out _ hV).mono ?_
            rintro e u1 ⟨v, rfl, h34, p1⟩
            obtain ⟨g, A, n, c, rfl⟩ := h34.shape2
            go_wp2_with fail
            exact hK.out _ _ p1 ⟨g, A, n, c, rfl, h34⟩
          refine StepsS.cons [4] rfl (by kernel_rfl) (fun y lst V hLk hV hp K hK => ?_) ?_
          · try dsimp only at hK
            simp only [putsL, upd, Act.put, List.setIfInBounds_toArray, List.set_cons_zero, List.set_cons_succ, Nat.reduceEqDiff, Nat.succ_ne_zero, Nat.reduceAdd, zero_ne_one_, one_ne_zero_, reduceIte] at hK ⊢
            have e4 := hp 4 (by simp)
            clear hp
            try dsimp only at hV e4
            generalize y 4 = z4 at hK e4 ⊢
            obtain ⟨g4, A4', n4', c4', rfl, h34⟩ := e4
            go_simp
            exact hK.out _ _ ((Pu.refl _).alloc _) ⟨_, g4, A4', n4', c4', rfl, Blk.new _ _ _, h34.pu ((Pu.refl _).alloc _)⟩
          exact StepsS.nil
        · intro y V lst hL hV hp
          have f0 := hp 0 (by decide)
          have f1 := hp 1 (by decide)
          have f2 := hp 2 (by decide)
          have f3 := hp 3 (by decide)
          have f4 := hp 4 (by decide)
          have f5 := hp 5 (by decide)
          clear hp
          try dsimp only at hV f0 f1 f2 f3 f4 f5
          simp only [putsL, upd, Act.put, List.setIfInBounds_toArray, List.set_cons_zero, List.set_cons_succ, Nat.reduceEqDiff, Nat.succ_ne_zero, Nat.reduceAdd, zero_ne_one_, one_ne_zero_, reduceIte]
          generalize y 0 = z0 at f0 ⊢
          generalize y 1 = z1 at f1 ⊢
          generalize y 2 = z2 at f2 ⊢
          generalize y 3 = z3 at f3 ⊢
          generalize y 4 = z4 at f4 ⊢
          generalize y 5 = z5 at f5 ⊢
          subst f0
          subst f1
          subst f2
          subst f3
          clear f4
          obtain ⟨q, gq, Aq, nq, cq, rfl, hBq, hzq⟩ := f5
          go_wp2_with fail
          refine (Hadd.out _ hV q gq Aq nq cq hzq hBq).mono ?_
          rintro e u1 ⟨v, rfl, hT, p1⟩
          obtain ⟨g7, A7, n7, c7, rfl⟩ := hT.shape2
          have kR := m6.pu (hV.trans p1)
          have x0 := kR.cell 0
          have fx0 := kR.frozen 0
          have x1 := kR.cell 1
          have fx1 := kR.frozen 1
          obtain ⟨kR2, eR⟩ := over_2 kR (.bool g7) (.slice A7 n7 c7)
          have hT2 := hT.frT eR (typed_blk1 kR (by decide))
          have hFr := hF.trans ((pX.trans (pV.trans (hV.trans p1))).fr' eR)
          have HF := Lib.hid (And.intro kR2 (And.intro hT2 hFr))
          clear hT2 hFr kR2 kR eR hT hBq hzq
          go_wp2
          go_roundw
          case rel => exact ⟨i + 1, g7, A7, n7, c7, _, by omega, by go_num, HF.out.1, HF.out.2.1, hnx2, hab2, HF.out.2.2⟩
          case measure => simp [intOf]; omega
    · obtain rfl : i = n4 := by omega
      have hdone : evalM gs rest fs = some a := by
        rw [hev.out, List.drop_eq_nil_of_le (by rw [← hHG.1]; omega)]
        rfl
      have a0 := l6.cell 0
      have a1 := l6.cell 1
      have c0 := l4.cell 0
      have c1 := l4.cell 1
      have d0 := l4.frozen 0
      have d1 := l4.frozen 1
      obtain ⟨kR, eR⟩ := over_2 l4 (.bool g6) (.slice A6 n6 c6)
      have r0 := kR.cell 0
      have r1 := kR.cell 1
      have hz' := hza.frT eR (typed_blk1 l4 (by decide))
      have hP := hPr.step eR (fun j hj => by
        have e' : j = w.heap.size + 1 := hj
        omega)
      have HP := Lib.hid (And.intro hdone (And.intro hz' hP))
      clear hdone hz' hP eR kR l4 l6 hza hev
      go_wp2
      exact bodyPost_ret (v := .tuple #[.agg #[.bool g6, .slice A6 n6 c6], .int .i64 0]) (by simp [results, Tryz.results18, go_sem, r0, r1]) rfl ⟨.inl ⟨a, _, HP.out.1, rfl, HP.out.2.1⟩, HP.out.2.2⟩
end
section
set_option linter.unusedVariables false
set_option linter.unusedSimpArgs false
open Go.RowKit
def putR (k : Key) (r2 : Int) (gs : List (Key × Int)) (r : RowM) : RowM := ⟨r.rest + r2 * factor r.fs k, subT r.fs k gs, r.eq⟩
set_option maxHeartbeats 4000000 in
set_option maxRecDepth 100000 in
theorem rput_any (A : Option Addr) (n c : Nat) (L : List RawR) (l : List RowM) (k : Key) (v2 : Value) (r2 : Int) (gs : List (Key × Int)) (K G : Nat) (w : World) (h : SlR w A n c L) (hh : HoldR w L l) (h2 : TM w v2 r2 gs)
    (ok : ∀ r ∈ l, PutOk K G r.fs gs r.rest r2) (hn : n < 1100000) :
    Calls Tryz.prog 20 #[.slice A n c, .string ⟨k.toArray⟩, v2] w fun e w' => ∃ A' c' L', e = .returned (.slice A' n c') ∧ w'.ownsRow w.heap.size 35 4 (.slice A' n c') n (cat RawR.cells L') ∧ HoldO w' w.heap.size L' (l.map (putR k r2 gs)) ∧ Pu w w' := by
  obtain ⟨g2, A2, n2, c2, m2, rfl⟩ := h2.shape
  obtain ⟨W, hWe⟩ : ∃ W, W = w.alloc (.cells #[.bool g2, .slice A2 n2 c2, .pointer m2] 33) := ⟨_, rfl⟩
  have pW : Pu w W := by rw [hWe]; exact (Pu.refl w).alloc _
  have k5 : Blk W w.heap.size 33 #[.bool g2, .slice A2 n2 c2, .pointer m2] := by rw [hWe]; exact Blk.new _ _ _
  have hlen : L.length = n := h.len
  have hll := hh.1
  have HL := Lib.hid (And.intro hlen hll)
  have H2 := Lib.hid (h2.pu pW)
  have HWe := Lib.hid hWe
  have OK := Lib.hid ok
  clear hlen hll h2 ok hWe
  go_enter Tryz.func20, Tryz.ntmps20
  go_wp2_with fail
  rw [← HWe.out]
  go_loopw [7, 12] (fun ov iv wr => ∃ (i : Nat) (A' : Option Addr) (c' : Nat) (L' : List RawR), i ≤ n ∧ iv = .int .i64 (i : Int) ∧ ov = .slice A' i c' ∧ wr.ownsRow W.heap.size 35 4 (.slice A' i c') i (cat RawR.cells L') ∧ HoldO wr W.heap.size L' ((l.take i).map (putR k r2 gs)) ∧ Pu W wr) (fun _ iv _ => n - (intOf iv).toNat)
  case atStart => exact ⟨0, none, 0, [], Nat.zero_le _, rfl, rfl, World.ownsRow_nil _ _ _ _, by simpa using HoldO.nil W W.heap.size, Pu.refl _⟩
  case round =>
    obtain ⟨i, A', c', L', hi, rfl, rfl, ho, hH, hP⟩ := hrel
    by_cases hlt : i < n
    · obtain ⟨q, hq⟩ : ∃ q, L[i]? = some q := ⟨_, List.getElem?_eq_getElem (by rw [HL.out.1]; exact hlt)⟩
      obtain ⟨r, hr, hri⟩ := hh.at_ hq
      obtain ⟨b, off, rfl, hbl, x0, x1, x2, x3⟩ := SlR.at_ (Sl.pu h (pW.trans hP)) hq
      obtain ⟨V0, hVe⟩ : ∃ V0, V0 = wr.alloc (.cells #[.bool q.g, .slice q.A q.n q.c, .pointer q.m, .bool q.eq] 35) := ⟨_, rfl⟩
      have pV : Pu wr V0 := by rw [hVe]; exact (Pu.refl wr).alloc _
      have k9 : Blk V0 wr.heap.size 35 #[.bool q.g, .slice q.A q.n q.c, .pointer q.m, .bool q.eq] := by rw [hVe]; exact Blk.new _ _ _
      have m5 := k5.pu (hP.trans pV)
      have hrV := hri.pu (pW.trans (hP.trans pV))
      have hput := OK.out r (List.mem_of_getElem? hr)
      have Hput := Lib.hid (show ∀ V (hV : Pu V0 V), Calls Tryz.prog 51 #[.agg #[.bool q.g, .slice q.A q.n q.c, .pointer q.m], .string ⟨k.toArray⟩, .agg #[.bool g2, .slice A2 n2 c2, .pointer m2]] V fun e w' => ∃ v, e = .returned v ∧ TMO w' V.heap.size v (r.rest + r2 * factor r.fs k) (subT r.fs k gs) ∧ Pu V w' from fun V hV =>
        tput_any _ _ r.rest r2 r.fs gs k K G V (hrV.2.pu hV) (H2.out.pu (hP.trans (pV.trans hV))) hput)
      have hnx : (l.take (i + 1)).map (putR k r2 gs) = (l.take i).map (putR k r2 gs) ++ [putR k r2 gs r] := by
        rw [List.take_add_one, hr]
        simp
      have Hnx := Lib.hid hnx
      have heq : q.eq = r.eq := hri.1
      have hwi : IntKind.i64.wrap ((i : Int) + 1) = (i : Int) + 1 := IntWalk.i64_in _ (by omega)
      have hsW := pW.size
      have hsP := hP.size
      have hsV := pV.size
      have hoV := own_pu ho pV
      have hHV := hH.pu pV
      have Heq := Lib.hid heq
      have HVe := Lib.hid hVe
      clear hq hr hri hrV hput hVe ho hH heq hnx
      obtain ⟨qg, qA, qn, qc, qm, qe⟩ := q
      dsimp only at x0 x1 x2 x3 Hput k9 Heq HVe
      go_wp2_with fail
      try rw [← HVe.out]
      have pd : Pu V0 V0.drew := (Pu.refl V0).drew
      refine wp_region_stableA2 10 (fun _ w => Pu V0 w) (fun _ => Pu) (fun io => match io with | 0 => fun vv_ _ => vv_ = .slice A' i c' | 1 => fun vv_ _ => vv_ = .pointer (some ⟨wr.heap.size, 0, none⟩) | 2 => fun vv_ _ => vv_ = .agg #[.bool qg, .slice qA qn qc, .pointer qm] | 3 => fun vv_ _ => vv_ = .string ⟨k.toArray⟩ | 4 => fun vv_ _ => vv_ = .agg #[.bool g2, .slice A2 n2 c2, .pointer m2] | 5 => fun v w => ∃ g A n c m, v = .agg #[.bool g, .slice A n c, .pointer m] ∧ TMO w V0.heap.size (.agg #[.bool g, .slice A n c, .pointer m]) (r.rest + r2 * factor r.fs k) (subT r.fs k gs) | 6 => fun vv_ _ => vv_ = .pointer (some ⟨wr.heap.size, 3, none⟩) | 7 => fun vv_ _ => vv_ = .bool qe | 8 => fun v w => ∃ g A n c m, v = .agg #[.bool g, .slice A n c, .pointer m, .bool qe] ∧ TMO w V0.heap.size (.agg #[.bool g, .slice A n c, .pointer m]) (r.rest + r2 * factor r.fs k) (subT r.fs k gs) | 9 => fun v w => ∃ q g A n c m, v = .slice (some ⟨q, 0, none⟩) 1 1 ∧ Blk w q 35 #[.bool g, .slice A n c, .pointer m, .bool qe] ∧ TMO w V0.heap.size (.agg #[.bool g, .slice A n c, .pointer m]) (r.rest + r2 * factor r.fs k) (subT r.fs k gs) | _ => fun _ _ => True) [some 16, some 17, some 18, some 19, some 20, some 21, some 22, some 23, some 24, some 25] (by kernel_rfl) (by kernel_rfl) rfl pd ?_ ?_ ?_ ?_
      · intro ko lst u u' hk hLk hI hR
        exact hI.trans hR
      · intro io ko v u u' hi hk hik h hR0
        have hR := hR0
        match io, hi, hik, h with
        | 0, _, _, h => exact h
        | 1, _, _, h => exact h
        | 2, _, _, h => exact h
        | 3, _, _, h => exact h
        | 4, _, _, h => exact h
        | 5, _, hik, h =>
          replace h : ∃ g A n c m, v = .agg #[.bool g, .slice A n c, .pointer m] ∧ TMO u V0.heap.size (.agg #[.bool g, .slice A n c, .pointer m]) (r.rest + r2 * factor r.fs k) (subT r.fs k gs) := h
          obtain ⟨g, A, n, c, m, e, h⟩ := h
          exact ⟨g, A, n, c, m, e, h.pu hR⟩
        | 6, _, _, h => exact h
        | 7, _, _, h => exact h
        | 8, _, hik, h =>
          replace h : ∃ g A n c m, v = .agg #[.bool g, .slice A n c, .pointer m, .bool qe] ∧ TMO u V0.heap.size (.agg #[.bool g, .slice A n c, .pointer m]) (r.rest + r2 * factor r.fs k) (subT r.fs k gs) := h
          obtain ⟨g, A, n, c, m, e, h⟩ := h
          exact ⟨g, A, n, c, m, e, h.pu hR⟩
        | 9, _, hik, h =>
          replace h : ∃ q g A n c m, v = .slice (some ⟨q, 0, none⟩) 1 1 ∧ Blk u q 35 #[.bool g, .slice A n c, .pointer m, .bool qe] ∧ TMO u V0.heap.size (.agg #[.bool g, .slice A n c, .pointer m]) (r.rest + r2 * factor r.fs k) (subT r.fs k gs) := h
          obtain ⟨q, g, A, n, c, m, e, h, h'⟩ := h
          exact ⟨q, g, A, n, c, m, e, h.pu hR, h'.pu hR⟩
        | _ + 10, hi, _, _ => exact absurd hi (by omega)
      · refine StepsS.cons [] rfl (by kernel_rfl) (fun y lst V hLk hV hp K hK => ?_) ?_
        · try dsimp only at hK
          simp only [putsL, upd, Act.put, List.setIfInBounds_toArray, List.set_cons_zero, List.set_cons_succ, Nat.reduceEqDiff, Nat.succ_ne_zero, Nat.reduceAdd, zero_ne_one_, one_ne_zero_, reduceIte] at hK ⊢
          clear hp
          try dsimp only at hV
          go_simp
          exact hK.out _ _ (Pu.refl _) rfl
        refine StepsS.cons [] rfl (by kernel_rfl) (fun y lst V hLk hV hp K hK => ?_) ?_
        · try dsimp only at hK
          simp only [putsL, upd, Act.put, List.setIfInBounds_toArray, List.set_cons_zero, List.set_cons_succ, Nat.reduceEqDiff, Nat.succ_ne_zero, Nat.reduceAdd, zero_ne_one_, one_ne_zero_, reduceIte] at hK ⊢
          clear hp
          try dsimp only at hV
          go_simp
          exact hK.out _ _ (Pu.refl _) rfl
        refine StepsS.cons [1] rfl (by kernel_rfl) (fun y lst V hLk hV hp K hK => ?_) ?_
        · try dsimp only at hK
          simp only [putsL, upd, Act.put, List.setIfInBounds_toArray, List.set_cons_zero, List.set_cons_succ, Nat.reduceEqDiff, Nat.succ_ne_zero, Nat.reduceAdd, zero_ne_one_, one_ne_zero_, reduceIte] at hK ⊢
          have e1 := hp 1 (by simp)
          clear hp
          try dsimp only at hV e1
          generalize y 1 = z1 at hK e1 ⊢
          subst e1
          have x0 := (k9.pu hV).cell 0
          have x1 := (k9.pu hV).cell 1
          have x2 := (k9.pu hV).cell 2
          have x3 := (k9.pu hV).cell 3
          go_simp
          exact hK.out _ _ (Pu.refl _) rfl
        refine StepsS.cons [] rfl (by kernel_rfl) (fun y lst V hLk hV hp K hK => ?_) ?_
        · try dsimp only at hK
          simp only [putsL, upd, Act.put, List.setIfInBounds_toArray, List.set_cons_zero, List.set_cons_succ, Nat.reduceEqDiff, Nat.succ_ne_zero, Nat.reduceAdd, zero_ne_one_, one_ne_zero_, reduceIte] at hK ⊢
          clear hp
          try dsimp only at hV
          go_simp
          exact hK.out _ _ (Pu.refl _) rfl
        refine StepsS.cons [] rfl (by kernel_rfl) (fun y lst V hLk hV hp K hK => ?_) ?_
        · try dsimp only at hK
          simp only [putsL, upd, Act.put, List.setIfInBounds_toArray, List.set_cons_zero, List.set_cons_succ, Nat.reduceEqDiff, Nat.succ_ne_zero, Nat.reduceAdd, zero_ne_one_, one_ne_zero_, reduceIte] at hK ⊢
          clear hp
          try dsimp only at hV
          have x0 := (m5.pu hV).cell 0
          have x1 := (m5.pu hV).cell 1
          have x2 := (m5.pu hV).cell 2
          go_simp
          exact hK.out _ _ (Pu.refl _) rfl
        refine StepsS.cons [2, 3, 4] rfl (by kernel_rfl) (fun y lst V hLk hV hp K hK => ?_) ?_
        · try dsimp only at hK
          simp only [putsL, upd, Act.put, List.setIfInBounds_toArray, List.set_cons_zero, List.set_cons_succ, Nat.reduceEqDiff, Nat.succ_ne_zero, Nat.reduceAdd, zero_ne_one_, one_ne_zero_, reduceIte] at hK ⊢
          have e2 := hp 2 (by simp)
          have e3 := hp 3 (by simp)
          have e4 := hp 4 (by simp)
          clear hp
          try dsimp only at hV e2 e3 e4
          generalize y 2 = z2 at hK e2 ⊢
          generalize y 3 = z3 at hK e3 ⊢
          generalize y 4 = z4 at hK e4 ⊢
          subst e2
          subst e3
          subst e4
          go_simp
          go_at_call 51
          refine (Hput.out _ hV).mono ?_
          rintro e u1 ⟨v, rfl, h21, p1⟩
          obtain ⟨g, A, n, c, m, rfl⟩ := h21.tm.shape
          go_wp2_with fail
          exact hK.out _ _ p1 ⟨g, A, n, c, m, rfl, h21.base_ hV.size⟩
        refine StepsS.cons [] rfl (by kernel_rfl) (fun y lst V hLk hV hp K hK => ?_) ?_
        · try dsimp only at hK
          simp only [putsL, upd, Act.put, List.setIfInBounds_toArray, List.set_cons_zero, List.set_cons_succ, Nat.reduceEqDiff, Nat.succ_ne_zero, Nat.reduceAdd, zero_ne_one_, one_ne_zero_, reduceIte] at hK ⊢
          clear hp
          try dsimp only at hV
          go_simp
          exact hK.out _ _ (Pu.refl _) rfl
        refine StepsS.cons [6] rfl (by kernel_rfl) (fun y lst V hLk hV hp K hK => ?_) ?_
        · try dsimp only at hK
          simp only [putsL, upd, Act.put, List.setIfInBounds_toArray, List.set_cons_zero, List.set_cons_succ, Nat.reduceEqDiff, Nat.succ_ne_zero, Nat.reduceAdd, zero_ne_one_, one_ne_zero_, reduceIte] at hK ⊢
          have e6 := hp 6 (by simp)
          clear hp
          try dsimp only at hV e6
          generalize y 6 = z6 at hK e6 ⊢
          subst e6
          have x0 := (k9.pu hV).cell 0
          have x1 := (k9.pu hV).cell 1
          have x2 := (k9.pu hV).cell 2
          have x3 := (k9.pu hV).cell 3
          go_simp
          exact hK.out _ _ (Pu.refl _) rfl
        refine StepsS.cons [5, 7] rfl (by kernel_rfl) (fun y lst V hLk hV hp K hK => ?_) ?_
        · try dsimp only at hK
          simp only [putsL, upd, Act.put, List.setIfInBounds_toArray, List.set_cons_zero, List.set_cons_succ, Nat.reduceEqDiff, Nat.succ_ne_zero, Nat.reduceAdd, zero_ne_one_, one_ne_zero_, reduceIte] at hK ⊢
          have e5 := hp 5 (by simp)
          have e7 := hp 7 (by simp)
          clear hp
          try dsimp only at hV e5 e7
          generalize y 5 = z5 at hK e5 ⊢
          generalize y 7 = z7 at hK e7 ⊢
          obtain ⟨g5, A5, n5, c5, m5', rfl, h5⟩ := e5
          subst e7
          go_simp
          exact hK.out _ _ (Pu.refl _) ⟨_, _, _, _, _, rfl, h5⟩
        refine StepsS.cons [8] rfl (by kernel_rfl) (fun y lst V hLk hV hp K hK => ?_) ?_
        · try dsimp only at hK
          simp only [putsL, upd, Act.put, List.setIfInBounds_toArray, List.set_cons_zero, List.set_cons_succ, Nat.reduceEqDiff, Nat.succ_ne_zero, Nat.reduceAdd, zero_ne_one_, one_ne_zero_, reduceIte] at hK ⊢
          have e8 := hp 8 (by simp)
          clear hp
          try dsimp only at hV e8
          generalize y 8 = z8 at hK e8 ⊢
          obtain ⟨g8, A8, n8, c8, m8, rfl, h8⟩ := e8
          go_simp
          exact hK.out _ _ ((Pu.refl _).alloc _) ⟨_, _, _, _, _, _, rfl, Blk.new _ _ _, h8.pu ((Pu.refl _).alloc _)⟩
        exact StepsS.nil
      · intro y V lst hL hV hp
        have f0 := hp 0 (by decide)
        have f1 := hp 1 (by decide)
        have f2 := hp 2 (by decide)
        have f3 := hp 3 (by decide)
        have f4 := hp 4 (by decide)
        have f5 := hp 5 (by decide)
        have f6 := hp 6 (by decide)
        have f7 := hp 7 (by decide)
        have f8 := hp 8 (by decide)
        have f9 := hp 9 (by decide)
        clear hp
        try dsimp only at hV f0 f1 f2 f3 f4 f5 f6 f7 f8 f9
        simp only [putsL, upd, Act.put, List.setIfInBounds_toArray, List.set_cons_zero, List.set_cons_succ, Nat.reduceEqDiff, Nat.succ_ne_zero, Nat.reduceAdd, zero_ne_one_, one_ne_zero_, reduceIte]
        generalize y 0 = z0 at f0 ⊢
        generalize y 1 = z1 at f1 ⊢
        generalize y 2 = z2 at f2 ⊢
        generalize y 3 = z3 at f3 ⊢
        generalize y 4 = z4 at f4 ⊢
        generalize y 5 = z5 at f5 ⊢
        generalize y 6 = z6 at f6 ⊢
        generalize y 7 = z7 at f7 ⊢
        generalize y 8 = z8 at f8 ⊢
        generalize y 9 = z9 at f9 ⊢
        subst f0
        subst f1
        subst f2
        subst f3
        subst f4
        subst f6
        subst f7
        clear f5 f8
        obtain ⟨qb, g9, A9, n9, c9, m9, rfl, hB9, h9⟩ := f9
        have hoU := own_pu hoV hV
        have hHU := hHV.pu hV
        have hbs : W.heap.size ≤ V.heap.size := by have := hV.size; omega
        go_wp2_with (at_builtin; refine wpList_pushB eiRow rfl _ _ rfl #[.bool g9, .slice A9 n9 c9, .pointer m9, .bool qe] rfl (RawR.cells_one ⟨g9, A9, n9, c9, m9, qe⟩) rfl rfl hB9 hoU (by simp [maxLen]; omega) (by omega) hbs ?_)
        intro g4 c4 w4 ho4 hg4 hw4
        have hQ := grown_qf hoU (Nat.le_refl _) hg4
        have hR9 : RowO w4 W.heap.size ⟨g9, A9, n9, c9, m9, qe⟩ (putR k r2 gs r) := ⟨Heq.out, (h9.qf hQ).base_ (by omega)⟩
        have hH4 := (hHU.qf hQ).append (HoldO.one hR9)
        have hP4 : Pu W w4 := (hP.trans (pV.trans hV)).grown hg4 (fun k hk => (hoU.lt k hk).1)
        have HF := Lib.hid (And.intro ho4 (And.intro hH4 hP4))
        clear ho4 hg4 hw4 hQ hR9 hH4 hP4 hoU hHU
        go_wp2
        go_roundw
        case rel => exact ⟨i + 1, some ⟨g4, 0, none⟩, c4, L' ++ [⟨g9, A9, n9, c9, m9, qe⟩], by omega, by go_num, rfl, by rw [cat_append, cat_one]; exact HF.out.1, by rw [Hnx.out]; exact HF.out.2.1, HF.out.2.2⟩
        case measure => simp [intOf]; omega
    · obtain rfl : i = n := by omega
      have hfin : (l.take i).map (putR k r2 gs) = l.map (putR k r2 gs) := by rw [List.take_of_length_le (by rw [← HL.out.2, HL.out.1]; omega)]
      rw [hfin] at hH
      have HF := Lib.hid (And.intro ho (And.intro hH (pW.trans hP)))
      clear hfin hH ho
      go_wp2
      go_ret
      exact ⟨A', c', L', rfl, own_base HF.out.1 pW.size, HF.out.2.1.base_ pW.size, HF.out.2.2⟩
end
section
set_option linter.unusedVariables false
set_option linter.unusedSimpArgs false
open Go.RowKit
def okS (z : Int) (eq : Bool) : Bool := decide (z = 0) || (decide (z < 0) && !eq)
def meetsM (gs : List (Key × Int)) : Bool → List RowM → Option Bool
  | b, [] => some b
  | b, r :: l => (evalM gs r.rest r.fs).bind fun z => meetsM gs (b && okS z r.eq) l
theorem meetsM_next {gs : List (Key × Int)} {l : List RowM} {b : Bool} {i : Nat} {r : RowM} (h : l[i]? = some r) : meetsM gs b (l.drop i) = (evalM gs r.rest r.fs).bind fun z => meetsM gs (b && okS z r.eq) (l.drop (i + 1)) := by
  have hlt := (List.getElem?_eq_some_iff.1 h).1
  have e : l.drop i = r :: l.drop (i + 1) := by
    rw [List.drop_eq_getElem_cons hlt]
    congr 1
    have := List.getElem?_eq_getElem hlt
    rw [h] at this
    exact (Option.some.inj this).symm
  rw [e]
  rfl
theorem evalM_le {gs : List (Key × Int)} {K G : Nat} (hg : Upto G gs) : ∀ (fs : List (Key × Int)) (a z : Int), Upto K fs → evalM gs a fs = some z → z.natAbs ≤ a.natAbs + fs.length * (G * K)
  | [], a, z, _, h => by
    simp [evalM] at h
    subst h
    omega
  | f :: fs, a, z, hf, h => by
    unfold evalM at h
    split at h
    · have ih := evalM_le hg fs _ z (fun x hx => hf x (List.mem_cons_of_mem _ hx)) h
      have h1 : (factor gs f.1 * f.2).natAbs ≤ G * K := by
        rw [Int.natAbs_mul]
        exact Nat.mul_le_mul (hg.factor _) (hf f (List.mem_cons_self ..))
      rw [List.length_cons, Nat.succ_mul]
      omega
    · cases h
def MeetsPost (o : Option Bool) (e : Ending) : Prop := (∃ b, o = some b ∧ e = .returned (.tuple #[.bool b, .int .i64 0])) ∨ (o = none ∧ e = .returned (.tuple #[.bool false, .int .i64 31]))
set_option maxHeartbeats 4000000 in
set_option maxRecDepth 100000 in
theorem meets_any (A : Option Addr) (n c : Nat) (L : List RawR) (l : List RowM) (gs : List (Key × Int)) (vb R0 K G : Nat) (w : World) (h : SlR w A n c L) (hh : HoldR w L l) (hv : VM w vb gs) (ok : ∀ r ∈ l, EvalOk R0 K G r.rest r.fs gs) (hn : n < 4611686018427387904) :
    Calls Tryz.prog 19 #[.slice A n c, .pointer (some ⟨vb, 0, none⟩)] w fun e w' => MeetsPost (meetsM gs true l) e ∧ Pu w w' := by
  have hlen : L.length = n := h.len
  have hll := hh.1
  have HL := Lib.hid (And.intro hlen hll)
  have HV := Lib.hid hv
  have OK := Lib.hid ok
  clear hlen hll hv ok
  go_enter Tryz.func19, Tryz.ntmps19
  go_wp2_with fail
  go_loopw [6, 13] (fun ov iv wr => ∃ (i : Nat) (b : Bool), i ≤ n ∧ iv = .int .i64 (i : Int) ∧ ov = .bool b ∧ Hid (meetsM gs true l = meetsM gs b (l.drop i)) ∧ Pu w wr) (fun _ iv _ => n - (intOf iv).toNat)
  case atStart => exact ⟨0, true, Nat.zero_le _, rfl, rfl, Lib.hid rfl, Pu.refl _⟩
  case round =>
    obtain ⟨i, b, hi, rfl, rfl, hev, hP⟩ := hrel
    by_cases hlt : i < n
    · obtain ⟨q, hq⟩ : ∃ q, L[i]? = some q := ⟨_, List.getElem?_eq_getElem (by rw [HL.out.1]; exact hlt)⟩
      obtain ⟨r, hr, hri⟩ := hh.at_ hq
      obtain ⟨b1, off, rfl, hbl, x0, x1, x2, x3⟩ := SlR.at_ (Sl.pu h hP) hq
      obtain ⟨X, hXe⟩ : ∃ X, X = wr.alloc (.cells #[.bool q.g, .slice q.A q.n q.c, .pointer q.m, .bool q.eq] 35) := ⟨_, rfl⟩
      have pX : Pu wr X := by rw [hXe]; exact (Pu.refl wr).alloc _
      have k8 : Blk X wr.heap.size 35 #[.bool q.g, .slice q.A q.n q.c, .pointer q.m, .bool q.eq] := by rw [hXe]; exact Blk.new _ _ _
      have hok := OK.out r (List.mem_of_getElem? hr)
      have heval := teval_any q.term r.rest r.fs gs vb R0 K G X (hri.2.pu (hP.trans pX)) (HV.out.pu (hP.trans pX)) hok
      rw [hXe] at heval
      have hzle : ∀ z, evalM gs r.rest r.fs = some z → z.natAbs < 4294967296 ^ 40000 := fun z hz => by
        have h1 := evalM_le hok.up2 r.fs r.rest z hok.up1 hz
        have h2 := hri.2.rise.2
        exact up_from (n := z.natAbs) (a := 30000) (b := 40000) (ten_le _ _ (Nat.le_trans h1 (Nat.add_le_add hok.r (Nat.mul_le_mul_right _ h2))) _ hok.b) (by decide)
      have Heval := Lib.hid heval
      have hnx := Lib.hid (hev.out.trans (meetsM_next (gs := gs) (b := b) hr))
      have Hzle := Lib.hid hzle
      have heq : q.eq = r.eq := hri.1
      have hwi : IntKind.i64.wrap ((i : Int) + 1) = (i : Int) + 1 := IntWalk.i64_in _ (by omega)
      have HXe := Lib.hid hXe
      have Heq := Lib.hid heq
      clear hq hr hri hok heval hzle heq hXe hev
      obtain ⟨qg, qA, qn, qc, qm, qe⟩ := q
      dsimp only at x0 x1 x2 x3 Heval k8 Heq HXe
      go_wp2_with fail
      refine Heval.out.mono ?_
      rintro e w3 ⟨hpost, p3⟩
      rw [← HXe.out] at p3
      rcases hpost with ⟨z, v, hz, rfl, hzr⟩ | ⟨hz, rfl⟩
      · obtain ⟨g9, A9, n9, c9, rfl⟩ := hzr.shape2
        obtain ⟨V, hVe⟩ : ∃ V, V = w3.alloc (.cells #[.bool g9, .slice A9 n9 c9] 30) := ⟨_, rfl⟩
        have pV : Pu w3 V := by rw [hVe]; exact (Pu.refl w3).alloc _
        have k9 : Blk V w3.heap.size 30 #[.bool g9, .slice A9 n9 c9] := by rw [hVe]; exact Blk.new _ _ _
        have m8 := k8.pu (p3.trans pV)
        have hnx2 := Lib.hid (show meetsM gs true l = meetsM gs (b && okS z r.eq) (l.drop (i + 1)) by rw [hnx.out, hz]; rfl)
        have hsg := fun U (pU : Pu V U) => sign_any _ z U ((hzr.pu pV).pu pU) (Hzle.out z hz)
        have hPV := hP.trans (pX.trans (p3.trans pV))
        have y0 := k9.cell 0
        have y1 := k9.cell 1
        have y3 := m8.cell 3
        rw [hVe] at y0 y1 y3
        have HVe := Lib.hid hVe
        have H9 := Lib.hid (And.intro k9 (And.intro m8 hPV))
        clear hnx hz hzr k9 m8 hPV hVe pV p3 k8 pX
        cases b with
        | false =>
          have hB := Lib.hid (show (false && okS z r.eq) = false from rfl)
          clear hsg
          go_wp2
          go_roundw
          case rel => exact ⟨i + 1, false, by omega, by go_num, rfl, Lib.hid (by rw [hnx2.out, hB.out]), by rw [← HVe.out]; exact H9.out.2.2⟩
          case measure => simp [intOf]; omega
        | true =>
          obtain ⟨s, hs, hcase⟩ : ∃ s : Int, z.sign = s ∧ ((s = -1 ∧ z < 0) ∨ (s = 0 ∧ z = 0) ∨ (s = 1 ∧ 0 < z)) := by
            rcases Int.lt_trichotomy z 0 with c | c | c
            · exact ⟨-1, Int.sign_eq_neg_one_of_neg c, .inl ⟨rfl, c⟩⟩
            · exact ⟨0, by rw [c]; rfl, .inr (.inl ⟨rfl, c⟩)⟩
            · exact ⟨1, Int.sign_eq_one_of_pos c, .inr (.inr ⟨rfl, c⟩)⟩
          rw [hs] at hsg
          have Hsg := Lib.hid hsg
          clear hsg hs
          rcases hcase with ⟨rfl, hz⟩ | ⟨rfl, hz⟩ | ⟨rfl, hz⟩
          · have hB := Lib.hid (show (true && okS z r.eq) = !qe by
              rw [← Heq.out]
              unfold okS
              rw [decide_eq_false (show ¬ z = 0 by omega), decide_eq_true hz]
              simp)
            clear hz
            go_wp2_with fail
            rw [← HVe.out]
            refine (Hsg.out _ (Pu.refl V)).mono ?_
            rintro e w4 ⟨rfl, p4⟩
            have z0 := (H9.out.1.pu p4).cell 0
            have z1 := (H9.out.1.pu p4).cell 1
            go_wp2_with fail
            refine (Hsg.out _ p4).mono ?_
            rintro e w5 ⟨rfl, p5⟩
            have z3 := (H9.out.2.1.pu (p4.trans p5)).cell 3
            have hP5 := Lib.hid (H9.out.2.2.trans (p4.trans p5))
            clear p4 p5
            go_wp2
            go_roundw
            case rel => exact ⟨i + 1, !qe, by omega, by go_num, by first | rfl | simp, Lib.hid (by rw [hnx2.out, hB.out]), hP5.out⟩
            case measure => simp [intOf]; omega
          · have hB := Lib.hid (show (true && okS z r.eq) = true by
              unfold okS
              rw [decide_eq_true hz]
              simp)
            clear hz
            go_wp2_with fail
            rw [← HVe.out]
            refine (Hsg.out _ (Pu.refl V)).mono ?_
            rintro e w4 ⟨rfl, p4⟩
            have hP5 := Lib.hid (H9.out.2.2.trans p4)
            clear p4
            go_wp2
            go_roundw
            case rel => exact ⟨i + 1, true, by omega, by go_num, by first | rfl | simp, Lib.hid (by rw [hnx2.out, hB.out]), hP5.out⟩
            case measure => simp [intOf]; omega
          · have hB := Lib.hid (show (true && okS z r.eq) = false by
              unfold okS
              rw [decide_eq_false (show ¬ z = 0 by omega), decide_eq_false (show ¬ z < 0 by omega)]
              simp)
            clear hz
            go_wp2_with fail
            rw [← HVe.out]
            refine (Hsg.out _ (Pu.refl V)).mono ?_
            rintro e w4 ⟨rfl, p4⟩
            have z0 := (H9.out.1.pu p4).cell 0
            have z1 := (H9.out.1.pu p4).cell 1
            go_wp2_with fail
            refine (Hsg.out _ p4).mono ?_
            rintro e w5 ⟨rfl, p5⟩
            have hP5 := Lib.hid (H9.out.2.2.trans (p4.trans p5))
            clear p4 p5
            go_wp2
            go_roundw
            case rel => exact ⟨i + 1, false, by omega, by go_num, by first | rfl | simp, Lib.hid (by rw [hnx2.out, hB.out]), hP5.out⟩
            case measure => simp [intOf]; omega
      · have hdone := Lib.hid (show meetsM gs true l = none by rw [hnx.out, hz]; rfl)
        have hP3 := Lib.hid ((hP.trans (pX.trans p3)).alloc (.cells #[.bool false, .slice none 0 0] 30))
        clear hnx hz p3 k8 pX
        go_wp2
        go_ret2
        exact ⟨.inr ⟨hdone.out, rfl⟩, hP3.out⟩
    · obtain rfl : i = n := by omega
      have hdone := Lib.hid (show meetsM gs true l = some b by
        rw [hev.out, List.drop_eq_nil_of_le (by rw [← HL.out.2, HL.out.1]; omega)]
        rfl)
      clear hev
      go_wp2
      go_ret2
      exact ⟨.inl ⟨b, hdone.out, rfl⟩, hP⟩
end
end Go.Proofs.YtckfnbckoclhpaaGreatDoor
