/- BagMaps: every play of a map is the document's list, step by step. -/
import Derived.Test.YtckfnbckoclhpaaBagAnchor
import Derived.Test.YtckfnbckoclhpaaMap6
import Derived.Test.YtckfnbckoclhpaaRefP
import Derived.Test.YtckfnbckoclhpaaOps
set_option linter.unusedVariables false
namespace Go.Proofs.Ytckfnbckoclhpaa
open Go.RowKit

theorem Sl.head {w : World} {A : Option Addr} {n c : Nat} {l : List (Int × Int)} (h : Sl w 2 A n c (prs l)) (P : Nat) (hP : P ≤ n) : Sl w 2 A P c (prs (l.take P)) := by
  have hl := h.prs_len
  refine ⟨by rw [Go.Proofs.Ytckfnbckoclhpaa.prs_len]; simp; omega, Nat.le_trans hP h.2.1, fun h0 => ?_⟩
  obtain ⟨b, off, e, hb, hc⟩ := h.2.2 (by omega)
  refine ⟨b, off, e, hb, fun j u hu => hc j u ?_⟩
  rw [prs_take, List.getElem?_take] at hu
  split at hu
  · exact hu
  · cases hu
theorem Sl.rest_ {w : World} {g n c : Nat} {l : List (Int × Int)} (h : Sl w 2 (some ⟨g, 0, none⟩) n c (prs l)) (P : Nat) (sa : Addr) (hP : P + 1 ≤ n) (hsa : P + 1 < n → sa = ⟨g, (P + 1) * 2, none⟩) : Sl w 2 (some sa) (n - (P + 1)) (c - (P + 1)) (prs (l.drop (P + 1))) := by
  have hl := h.prs_len
  have hnc := h.2.1
  refine ⟨by rw [Go.Proofs.Ytckfnbckoclhpaa.prs_len]; simp; omega, by omega, fun h0 => ?_⟩
  rw [hsa (by omega)]
  obtain ⟨b, off, e, hb, hc⟩ := h.2.2 (by omega)
  injection e with e
  injection e with e1 e2
  subst e1 e2
  refine ⟨g, (P + 1) * 2, rfl, hb, fun j u hu => ?_⟩
  rw [prs_drop, List.getElem?_drop] at hu
  have := hc _ u hu
  rwa [Nat.zero_add] at this

theorem ref_keep {w w' : World} {base base2 n c b : Nat} {A : Option Addr} {r : Option Nat} {l l2 : List (Int × Int)} (hO : w.ownsRow base 72 2 (.slice A n c) n (prs l)) (hM : MapR w base2 b r l2) (hF : Fr (fun j => j = b ∨ r = some j) w w') :
    w'.ownsRow base 72 2 (.slice A n c) n (prs l) := own_fr hO hF (fun g hg hS => by
  have := own_ne hO hM (by decide) (by decide) g hg
  rcases hS with e | e
  · exact this.1 e
  · exact this.2 e)

set_option maxHeartbeats 16000000 in
set_option maxRecDepth 100000 in
theorem maps_walk (B : Option Addr) (m d : Nat) (ops : List (Int × Int × Int)) (w : World) (hm : m ≤ 100) (hl : ops.length = m) (ho : Sl w 3 B m d (opCells ops)) :
    Calls Try.prog 7 #[.slice B m d] w fun e w' => e = .returned (.bool true) ∧ Pu w w' := by
  have d2 : decide ((100 : Int) < m) = false := by simp; omega
  have d4 : decide ((m : Int) > 100) = false := by simp; omega
  go_enter Try.func7, Try.ntmps7
  go_wp2_with fail
  refine (anchor_any _).mono ?_
  rintro e w1 ⟨rfl, H1⟩
  go_wp2_with fail
  refine (newmap_any _).mono ?_
  rintro e w2 ⟨b0, rfl, hM2, hb2, h2⟩
  have H2 := H1.trans h2
  have hM2' := hM2.base_ H1.size
  go_wp2_with fail
  go_loopw [3, 4, 25] (fun mv lv v ws => ∃ (j b : Nat) (r : Option Nat) (A : Option Addr) (n c : Nat) (l : List (Int × Int)), j ≤ m ∧ mv = .pointer (some ⟨b, 0, none⟩) ∧ lv = .slice A n c ∧ v = .int .i64 j ∧ MapR ws w.heap.size b r l ∧ ws.ownsRow w.heap.size 72 2 (.slice A n c) n (prs l) ∧ l.length ≤ j ∧ Pu w ws) (fun _ _ v _ => m - (intOf v).toNat)
  case atStart => exact ⟨0, b0, none, none, 0, 0, [], Nat.zero_le _, rfl, rfl, rfl, hM2', World.ownsRow_nil _ _ _ _, Nat.le_refl _, H2⟩
  case round =>
    clear hM2 hM2' hb2
    obtain ⟨j, b, r, A, n, c, l, hj, rfl, rfl, rfl, hM, hO, hll, hPs⟩ := hrel
    by_cases hjm : j < m
    · obtain ⟨bo, off, kd, x, y, rfl, hbo, o0, o1, o2⟩ := ops_at (ho.pu hPs) hl hjm
      have hri := hM.rise
      have hrow := hM.row
      have hblt := hM.lt
      have hal : Pu wr (wr.alloc (Obj.cells #[.int .i64 kd, .int .i64 x, .int .i64 y] 30)) := (Pu.refl wr).alloc _
      have hbO : Blk (wr.alloc (Obj.cells #[.int .i64 kd, .int .i64 x, .int .i64 y] 30)) wr.heap.size 30 #[.int .i64 kd, .int .i64 x, .int .i64 y] := Blk.new _ _ _
      have hP4 := hPs.trans hal
      have hO4 := own_pu hO hal
      have hM4 := hM.pu hal
      have enl : l.length = n := (Sl.of_own hO).prs_len
      have Hst := Lib.hid (show ∀ i, (i = b ∨ r = some i) → w.heap.size ≤ i from fun i hi => by
        rcases hi with e | e
        · omega
        · exact (hrow i e).1)
      have Hop := Lib.hid (show ¬ (wr.heap.size = b ∨ r = some wr.heap.size) from fun hi => by
        rcases hi with e | e
        · omega
        · have := (hrow _ e).2.1
          omega)
      have Hrow := Lib.hid hrow
      clear hrow hM hO hPs hal
      go_wp2_with fail
      refine (refGet_any A n c l x _ (Sl.of_own hO4) (by omega) hri).mono ?_
      rintro e v1 ⟨rfl, rfl⟩
      generalize hz : getR l x = z
      have Hz := Lib.hid hz
      clear hz
      by_cases k1 : kd = 1
      · subst k1
        go_wp2_with fail
        refine (put_any _ b r l x y _ hM4 (by omega)).mono ?_
        rintro e v3 ⟨rfl, r5, hM5, hF⟩
        have hO3 := ref_keep hO4 hM4 hF
        have hP3 : Pu w v3 := hP4.step hF (Hst.out)
        clear hM4 hO4 hP4
        have hbO3 : Blk v3 wr.heap.size 30 #[.int .i64 1, .int .i64 x, .int .i64 y] := hbO.fr hF (Hop.out)
        have q1 : v3.cell? ⟨wr.heap.size, 1, none⟩ = some (.int .i64 x) := hbO3.cell 1
        have q2 : v3.cell? ⟨wr.heap.size, 2, none⟩ = some (.int .i64 y) := hbO3.cell 2
        go_wp2_with fail
        refine (refSet_any A n c l x y _ (Sl.of_own hO3) (by omega) hri).mono ?_
        rintro e v5 ⟨A5, n5, c5, rfl, hO5', h5⟩
        have hO5 := own_base hO5' (hP3.size)
        have hM5 := hM5.pu h5
        have hP5 := hP3.trans h5
        have hll5 : (putM l x y).length ≤ j + 1 := by have := putM_len l x y; omega
        generalize putM l x y = l5 at *
        generalize there l x = th at *
        have eb : ((!th) != (!th)) = false := by cases th <;> rfl
        have eb2 : (th != th) = false := by cases th <;> rfl
        clear hO5' hO3 h5 hF hbO hbO3 hP3
        obtain ⟨b5, hb5⟩ : ∃ b5, b5 = b := ⟨_, rfl⟩
        subst hb5
        have en5 : l5.length = n5 := (Sl.of_own hO5).prs_len
        subst en5
        go_wp2_with fail
        refine (pairs_any _ b5 _ l5 _ hM5).mono ?_
        rintro e v6 ⟨A6, n6, c6, rfl, ho6, hP6⟩
        have e6 : l5.length = n6 := (Sl.of_own ho6).prs_len
        subst e6
        go_wp2_with fail
        refine (keys_any _ b5 _ l5 _ (hM5.pu hP6)).mono ?_
        rintro e v7 ⟨A7, n7, c7, rfl, ho7, hP7⟩
        have e7 : l5.length = n7 := by have := ho7.1; simpa [ivs, keys] using this
        subst e7
        go_wp2_with fail
        refine (mlen_any _ b5 _ l5 _ (hM5.pu (hP6.trans hP7))).mono ?_
        rintro e v8 ⟨rfl, rfl⟩
        have hP67 := hP6.trans hP7
        have hM7 := hM5.pu hP67
        have hO7 := own_pu hO5 hP67
        have hP8 := hP5.trans hP67
        have S5 := Sl.of_own hO7
        have S6 := Sl.of_own (own_pu ho6 hP7)
        have S7 := Sl.of_own ho7
        clear hM5 hO5 hP5 ho6 ho7 hP6 hP7 hP67
        go_wp2_with fail
        go_loopw [146] (fun v ws => ∃ t : Nat, t ≤ l5.length ∧ v = .int .i64 t ∧ Pu v7 ws) (fun v _ => l5.length - (intOf v).toNat)
        case atStart => exact ⟨0, Nat.zero_le _, rfl, Pu.refl _⟩
        case round =>
          obtain ⟨t, ht, rfl, hPt⟩ := hrel
          by_cases htl : t < l5.length
          · obtain ⟨p, hp⟩ : ∃ p, l5[t]? = some p := ⟨_, List.getElem?_eq_getElem htl⟩
            obtain ⟨x5, y5⟩ := p
            obtain ⟨q5, o5, ea5, hq5, c51, c52⟩ := prs_at (S5.pu hPt) hp
            first | subst ea5 | (injection ea5 with ea5; injection ea5 with e1 e2; subst e1 e2)
            obtain ⟨q6, o6, rfl, hq6, c61, c62⟩ := prs_at (S6.pu hPt) hp
            obtain ⟨q7, o7, u7, rfl, hq7, hu7, c71⟩ := (S7.pu hPt).at_ htl
            have eu : u7 = .int .i64 x5 := by
              rw [List.getElem?_map, List.getElem?_map, hp] at hu7
              injection hu7 with hu7
              exact hu7.symm
            subst eu
            clear hu7 hp
            simp only at c51 c52 c61 c62
            go_wp2_with fail
            go_quiet (fail)
            go_wp2
            go_roundw
            case rel => exact ⟨t + 1, by omega, by go_num, by repeat (first | exact hPt | apply Pu.drewN | apply Pu.drew | apply Pu.alloc)⟩
            case measure => simp [intOf]; omega
          · go_wp2
            go_roundw
            case rel => exact ⟨j + 1, b5, _, _, l5.length, _, l5, by omega, rfl, rfl, by go_num, hM7.pu hPt, own_pu hO7 hPt, by omega, hP8.trans hPt⟩
            case measure => simp [intOf]; omega
      · by_cases k2 : kd = 2
        · subst k2
          rcases hth : there l x with _ | _
          · have Hth := Lib.hid hth
            clear hth
            obtain rfl : z = -1 := by rw [← Hz.out, getR, Hth.out]; rfl
            have hd : dropM l x = l := by unfold dropM; rw [Hth.out]; rfl
            go_wp2_with fail
            refine (drop_any _ b r l x _ hM4).mono ?_
            rintro e v5 ⟨rfl, r5, hM5, hF⟩
            rw [hd] at hM5
            rw [Hth.out]
            have hO5 := ref_keep hO4 hM4 hF
            have hP5 : Pu w v5 := hP4.step hF (Hst.out)
            have hll5 : l.length ≤ j + 1 := by omega
            clear hM4 hO4 hP4 hF hd
            obtain ⟨b5, hb5⟩ : ∃ b5, b5 = b := ⟨_, rfl⟩
            obtain ⟨l5, hl5⟩ : ∃ l5, l5 = l := ⟨_, rfl⟩
            obtain ⟨n5, hn5⟩ : ∃ n5, n5 = n := ⟨_, rfl⟩
            subst hb5 hl5 hn5
            have en5 : l5.length = n5 := (Sl.of_own hO5).prs_len
            subst en5
            go_wp2_with fail
            refine (pairs_any _ b5 _ l5 _ hM5).mono ?_
            rintro e v6 ⟨A6, n6, c6, rfl, ho6, hP6⟩
            have e6 : l5.length = n6 := (Sl.of_own ho6).prs_len
            subst e6
            go_wp2_with fail
            refine (keys_any _ b5 _ l5 _ (hM5.pu hP6)).mono ?_
            rintro e v7 ⟨A7, n7, c7, rfl, ho7, hP7⟩
            have e7 : l5.length = n7 := by have := ho7.1; simpa [ivs, keys] using this
            subst e7
            go_wp2_with fail
            refine (mlen_any _ b5 _ l5 _ (hM5.pu (hP6.trans hP7))).mono ?_
            rintro e v8 ⟨rfl, rfl⟩
            have hP67 := hP6.trans hP7
            have hM7 := hM5.pu hP67
            have hO7 := own_pu hO5 hP67
            have hP8 := hP5.trans hP67
            have S5 := Sl.of_own hO7
            have S6 := Sl.of_own (own_pu ho6 hP7)
            have S7 := Sl.of_own ho7
            clear hM5 hO5 hP5 ho6 ho7 hP6 hP7 hP67
            go_wp2_with fail
            go_loopw [146] (fun v ws => ∃ t : Nat, t ≤ l5.length ∧ v = .int .i64 t ∧ Pu v7 ws) (fun v _ => l5.length - (intOf v).toNat)
            case atStart => exact ⟨0, Nat.zero_le _, rfl, Pu.refl _⟩
            case round =>
              obtain ⟨t, ht, rfl, hPt⟩ := hrel
              by_cases htl : t < l5.length
              · obtain ⟨p, hp⟩ : ∃ p, l5[t]? = some p := ⟨_, List.getElem?_eq_getElem htl⟩
                obtain ⟨x5, y5⟩ := p
                obtain ⟨q5, o5, ea5, hq5, c51, c52⟩ := prs_at (S5.pu hPt) hp
                first | subst ea5 | (injection ea5 with ea5; injection ea5 with e1 e2; subst e1 e2)
                obtain ⟨q6, o6, rfl, hq6, c61, c62⟩ := prs_at (S6.pu hPt) hp
                obtain ⟨q7, o7, u7, rfl, hq7, hu7, c71⟩ := (S7.pu hPt).at_ htl
                have eu : u7 = .int .i64 x5 := by
                  rw [List.getElem?_map, List.getElem?_map, hp] at hu7
                  injection hu7 with hu7
                  exact hu7.symm
                subst eu
                clear hu7 hp
                simp only at c51 c52 c61 c62
                go_wp2_with fail
                go_quiet (fail)
                go_wp2
                go_roundw
                case rel => exact ⟨t + 1, by omega, by go_num, by repeat (first | exact hPt | apply Pu.drewN | apply Pu.drew | apply Pu.alloc)⟩
                case measure => simp [intOf]; omega
              · go_wp2
                go_roundw
                case rel => exact ⟨j + 1, b5, _, _, l5.length, _, l5, by omega, rfl, rfl, by go_num, hM7.pu hPt, own_pu hO7 hPt, by omega, hP8.trans hPt⟩
                case measure => simp [intOf]; omega
          · have Hth := Lib.hid hth
            clear hth
            obtain ⟨u, hu⟩ := (there_iff hri x).1 Hth.out
            obtain ⟨P, hPP⟩ : ∃ P, place l x = P := ⟨_, rfl⟩
            rw [hPP] at hu
            have hPl := (List.getElem?_eq_some_iff.1 hu).1
            obtain rfl : z = (P : Int) := by rw [← Hz.out, getR, Hth.out, hPP]; rfl
            have e0 : decide ((P : Int) ≥ 0) = true := by simp
            have e00 : decide ((0 : Int) ≤ (P : Int)) = true := by simp
            have hd : dropM l x = l.take P ++ l.drop (P + 1) := by unfold dropM; rw [Hth.out, hPP]; rfl
            go_wp2_with fail
            refine (drop_any _ b r l x _ hM4).mono ?_
            rintro e v3 ⟨rfl, r5, hM3, hF⟩
            rw [hd] at hM3
            rw [Hth.out]
            have hO3 := ref_keep hO4 hM4 hF
            have hP3 : Pu w v3 := hP4.step hF (Hst.out)
            have hll5 : (l.take P ++ l.drop (P + 1)).length ≤ j + 1 := by simp; omega
            obtain ⟨gl, cur, rfl, _, hgl, hnc, hcm, _, _⟩ := own_blk hO3 (by omega)
            have hcm2 : c ≤ 9223372036854775807 := hcm
            have hS3 := Sl.of_own hO3
            obtain ⟨sa, hsa, hsa2⟩ : ∃ sa, (if c = P + 1 then some (⟨gl, 0, none⟩ : Addr) else some ⟨gl, (P + 1) * 2, none⟩) = some sa ∧ (c ≠ P + 1 → sa = ⟨gl, (P + 1) * 2, none⟩) := by
              by_cases hc : c = P + 1
              · exact ⟨_, by rw [if_pos hc], fun h => absurd hc h⟩
              · exact ⟨_, by rw [if_neg hc], fun _ => rfl⟩
            have hS31 := hS3.head P (by omega)
            have hS32 := hS3.rest_ P sa (by omega) (fun h => hsa2 (by omega))
            have hPc : P ≤ c := by omega
            have hPn : P + 1 ≤ n := by omega
            have hPn2 : (P : Int) + 1 ≤ (n : Int) := by omega
            have hP0 : (0 : Int) ≤ (P : Int) + 1 := by omega
            have htn : ((P : Int) + 1).toNat = P + 1 := by omega
            have hw1 : IntKind.i64.wrap ((P : Int) + 1) = (P : Int) + 1 := IntWalk.i64_in _ (by omega)
            have hE : ((v3.alloc (.cells #[] 72)).drew).ownsRow v3.heap.size 72 2 (.slice (some ⟨v3.heap.size, 0, none⟩) 0 0) 0 [] := own_none v3 _ 2 #[] rfl (Nat.le_refl _)
            have hPE : Pu v3 ((v3.alloc (.cells #[] 72)).drew) := ((Pu.refl v3).alloc _).drew
            clear hM4 hO4 hP4 hF hd hsa2 hu hO3 hgl
            go_wp2_with fail
            go_region_law (first
              | (refine step_app eiRefP rfl (.tmp 66) (.tmp 69) rfl (by simp [Act.eval]) (by simp [Act.eval]) hE (hS31.pu (by repeat (first | exact Pu.refl _ | apply Pu.drewN | apply Pu.drew | apply Pu.alloc))) (prs_one _) (by simp [maxLen]; omega) (by omega) (by simp) ?_; intro A4 c4 v4 ho4 hg4)
              | (refine step_app eiRefP rfl (.tmp 70) (.tmp 74) rfl (by simp [Act.eval]) (by simp [Act.eval]) ho4 (hS32.pu (pu_push hPE hE (Nat.le_refl _) hg4)) (prs_one _) (by simp [maxLen]; omega) (by omega) ?_ ?_; (have := hg4.size; simp at this; omega); intro A5 c5 v5 ho5 hg5))
            have hP4' := pu_push hPE hE (Nat.le_refl _) hg4
            have hP5' := pu_push hP4' ho4 (Nat.le_refl _) hg5
            have hO5 := own_base (show v5.ownsRow v3.heap.size 72 2 (.slice A5 (P + (n - (P + 1))) c5) (P + (n - (P + 1))) (prs (l.take P ++ l.drop (P + 1))) by rw [Nat.zero_add] at ho5; rw [prs_append]; exact ho5) hP3.size
            have hM5 := hM3.pu hP5'
            have hP5 := hP3.trans hP5'
            clear hP4' hP5' hE hPE hg4 hg5 ho4 ho5 hS31 hS32 hS3 hM3 hP3 hsa
            generalize l.take P ++ l.drop (P + 1) = l5 at *
            generalize P + (n - (P + 1)) = n5 at *
            obtain ⟨b5, hb5⟩ : ∃ b5, b5 = b := ⟨_, rfl⟩
            subst hb5
            have en5 : l5.length = n5 := (Sl.of_own hO5).prs_len
            subst en5
            go_wp2_with fail
            refine (pairs_any _ b5 _ l5 _ hM5).mono ?_
            rintro e v6 ⟨A6, n6, c6, rfl, ho6, hP6⟩
            have e6 : l5.length = n6 := (Sl.of_own ho6).prs_len
            subst e6
            go_wp2_with fail
            refine (keys_any _ b5 _ l5 _ (hM5.pu hP6)).mono ?_
            rintro e v7 ⟨A7, n7, c7, rfl, ho7, hP7⟩
            have e7 : l5.length = n7 := by have := ho7.1; simpa [ivs, keys] using this
            subst e7
            go_wp2_with fail
            refine (mlen_any _ b5 _ l5 _ (hM5.pu (hP6.trans hP7))).mono ?_
            rintro e v8 ⟨rfl, rfl⟩
            have hP67 := hP6.trans hP7
            have hM7 := hM5.pu hP67
            have hO7 := own_pu hO5 hP67
            have hP8 := hP5.trans hP67
            have S5 := Sl.of_own hO7
            have S6 := Sl.of_own (own_pu ho6 hP7)
            have S7 := Sl.of_own ho7
            clear hM5 hO5 hP5 ho6 ho7 hP6 hP7 hP67
            go_wp2_with fail
            go_loopw [146] (fun v ws => ∃ t : Nat, t ≤ l5.length ∧ v = .int .i64 t ∧ Pu v7 ws) (fun v _ => l5.length - (intOf v).toNat)
            case atStart => exact ⟨0, Nat.zero_le _, rfl, Pu.refl _⟩
            case round =>
              obtain ⟨t, ht, rfl, hPt⟩ := hrel
              by_cases htl : t < l5.length
              · obtain ⟨p, hp⟩ : ∃ p, l5[t]? = some p := ⟨_, List.getElem?_eq_getElem htl⟩
                obtain ⟨x5, y5⟩ := p
                obtain ⟨q5, o5, ea5, hq5, c51, c52⟩ := prs_at (S5.pu hPt) hp
                first | subst ea5 | (injection ea5 with ea5; injection ea5 with e1 e2; subst e1 e2)
                obtain ⟨q6, o6, rfl, hq6, c61, c62⟩ := prs_at (S6.pu hPt) hp
                obtain ⟨q7, o7, u7, rfl, hq7, hu7, c71⟩ := (S7.pu hPt).at_ htl
                have eu : u7 = .int .i64 x5 := by
                  rw [List.getElem?_map, List.getElem?_map, hp] at hu7
                  injection hu7 with hu7
                  exact hu7.symm
                subst eu
                clear hu7 hp
                simp only at c51 c52 c61 c62
                go_wp2_with fail
                go_quiet (fail)
                go_wp2
                go_roundw
                case rel => exact ⟨t + 1, by omega, by go_num, by repeat (first | exact hPt | apply Pu.drewN | apply Pu.drew | apply Pu.alloc)⟩
                case measure => simp [intOf]; omega
              · go_wp2
                go_roundw
                case rel => exact ⟨j + 1, b5, _, _, l5.length, _, l5, by omega, rfl, rfl, by go_num, hM7.pu hPt, own_pu hO7 hPt, by omega, hP8.trans hPt⟩
                case measure => simp [intOf]; omega
        · by_cases k3 : kd = 3
          · subst k3
            rcases hth : there l x with _ | _
            · have Hth := Lib.hid hth
              clear hth
              obtain rfl : z = -1 := by rw [← Hz.out, getR, Hth.out]; rfl
              have hv : getV l x = 0 := by unfold getV; rw [Hth.out]; rfl
              go_wp2_with fail
              refine (mget_any _ b r l x _ hM4).mono ?_
              rintro e v5 ⟨rfl, h5⟩
              rw [hv, Hth.out]
              have hO5 := own_pu hO4 h5
              have hM5 := hM4.pu h5
              have hP5 := hP4.trans h5
              have hll5 : l.length ≤ j + 1 := by omega
              clear hM4 hO4 hP4 h5 hv
              obtain ⟨b5, hb5⟩ : ∃ b5, b5 = b := ⟨_, rfl⟩
              obtain ⟨l5, hl5⟩ : ∃ l5, l5 = l := ⟨_, rfl⟩
              obtain ⟨n5, hn5⟩ : ∃ n5, n5 = n := ⟨_, rfl⟩
              subst hb5 hl5 hn5
              have en5 : l5.length = n5 := (Sl.of_own hO5).prs_len
              subst en5
              go_wp2_with fail
              refine (pairs_any _ b5 _ l5 _ hM5).mono ?_
              rintro e v6 ⟨A6, n6, c6, rfl, ho6, hP6⟩
              have e6 : l5.length = n6 := (Sl.of_own ho6).prs_len
              subst e6
              go_wp2_with fail
              refine (keys_any _ b5 _ l5 _ (hM5.pu hP6)).mono ?_
              rintro e v7 ⟨A7, n7, c7, rfl, ho7, hP7⟩
              have e7 : l5.length = n7 := by have := ho7.1; simpa [ivs, keys] using this
              subst e7
              go_wp2_with fail
              refine (mlen_any _ b5 _ l5 _ (hM5.pu (hP6.trans hP7))).mono ?_
              rintro e v8 ⟨rfl, rfl⟩
              have hP67 := hP6.trans hP7
              have hM7 := hM5.pu hP67
              have hO7 := own_pu hO5 hP67
              have hP8 := hP5.trans hP67
              have S5 := Sl.of_own hO7
              have S6 := Sl.of_own (own_pu ho6 hP7)
              have S7 := Sl.of_own ho7
              clear hM5 hO5 hP5 ho6 ho7 hP6 hP7 hP67
              go_wp2_with fail
              go_loopw [146] (fun v ws => ∃ t : Nat, t ≤ l5.length ∧ v = .int .i64 t ∧ Pu v7 ws) (fun v _ => l5.length - (intOf v).toNat)
              case atStart => exact ⟨0, Nat.zero_le _, rfl, Pu.refl _⟩
              case round =>
                obtain ⟨t, ht, rfl, hPt⟩ := hrel
                by_cases htl : t < l5.length
                · obtain ⟨p, hp⟩ : ∃ p, l5[t]? = some p := ⟨_, List.getElem?_eq_getElem htl⟩
                  obtain ⟨x5, y5⟩ := p
                  obtain ⟨q5, o5, ea5, hq5, c51, c52⟩ := prs_at (S5.pu hPt) hp
                  first | subst ea5 | (injection ea5 with ea5; injection ea5 with e1 e2; subst e1 e2)
                  obtain ⟨q6, o6, rfl, hq6, c61, c62⟩ := prs_at (S6.pu hPt) hp
                  obtain ⟨q7, o7, u7, rfl, hq7, hu7, c71⟩ := (S7.pu hPt).at_ htl
                  have eu : u7 = .int .i64 x5 := by
                    rw [List.getElem?_map, List.getElem?_map, hp] at hu7
                    injection hu7 with hu7
                    exact hu7.symm
                  subst eu
                  clear hu7 hp
                  simp only at c51 c52 c61 c62
                  go_wp2_with fail
                  go_quiet (fail)
                  go_wp2
                  go_roundw
                  case rel => exact ⟨t + 1, by omega, by go_num, by repeat (first | exact hPt | apply Pu.drewN | apply Pu.drew | apply Pu.alloc)⟩
                  case measure => simp [intOf]; omega
                · go_wp2
                  go_roundw
                  case rel => exact ⟨j + 1, b5, _, _, l5.length, _, l5, by omega, rfl, rfl, by go_num, hM7.pu hPt, own_pu hO7 hPt, by omega, hP8.trans hPt⟩
                  case measure => simp [intOf]; omega
            · have Hth := Lib.hid hth
              clear hth
              obtain ⟨u, hu⟩ := (there_iff hri x).1 Hth.out
              obtain ⟨P, hPP⟩ : ∃ P, place l x = P := ⟨_, rfl⟩
              rw [hPP] at hu
              have hPl := (List.getElem?_eq_some_iff.1 hu).1
              obtain rfl : z = (P : Int) := by rw [← Hz.out, getR, Hth.out, hPP]; rfl
              have e0 : decide ((P : Int) ≥ 0) = true := by simp
              have e00 : decide ((0 : Int) ≤ (P : Int)) = true := by simp
              have hv : getV l x = u := by unfold getV; rw [Hth.out, hPP, hu]; rfl
              go_wp2_with fail
              refine (mget_any _ b r l x _ hM4).mono ?_
              rintro e v5 ⟨rfl, h5⟩
              rw [hv, Hth.out]
              have hO5 := own_pu hO4 h5
              have hM5 := hM4.pu h5
              have hP5 := hP4.trans h5
              have hll5 : l.length ≤ j + 1 := by omega
              obtain ⟨gl, ol, rfl, _, _, cl⟩ := prs_at (Sl.of_own hO5) hu
              simp only at cl
              clear hM4 hO4 hP4 h5 hv hu
              obtain ⟨b5, hb5⟩ : ∃ b5, b5 = b := ⟨_, rfl⟩
              obtain ⟨l5, hl5⟩ : ∃ l5, l5 = l := ⟨_, rfl⟩
              obtain ⟨n5, hn5⟩ : ∃ n5, n5 = n := ⟨_, rfl⟩
              subst hb5 hl5 hn5
              have en5 : l5.length = n5 := (Sl.of_own hO5).prs_len
              subst en5
              go_wp2_with fail
              refine (pairs_any _ b5 _ l5 _ hM5).mono ?_
              rintro e v6 ⟨A6, n6, c6, rfl, ho6, hP6⟩
              have e6 : l5.length = n6 := (Sl.of_own ho6).prs_len
              subst e6
              go_wp2_with fail
              refine (keys_any _ b5 _ l5 _ (hM5.pu hP6)).mono ?_
              rintro e v7 ⟨A7, n7, c7, rfl, ho7, hP7⟩
              have e7 : l5.length = n7 := by have := ho7.1; simpa [ivs, keys] using this
              subst e7
              go_wp2_with fail
              refine (mlen_any _ b5 _ l5 _ (hM5.pu (hP6.trans hP7))).mono ?_
              rintro e v8 ⟨rfl, rfl⟩
              have hP67 := hP6.trans hP7
              have hM7 := hM5.pu hP67
              have hO7 := own_pu hO5 hP67
              have hP8 := hP5.trans hP67
              have S5 := Sl.of_own hO7
              have S6 := Sl.of_own (own_pu ho6 hP7)
              have S7 := Sl.of_own ho7
              clear hM5 hO5 hP5 ho6 ho7 hP6 hP7 hP67
              go_wp2_with fail
              go_loopw [146] (fun v ws => ∃ t : Nat, t ≤ l5.length ∧ v = .int .i64 t ∧ Pu v7 ws) (fun v _ => l5.length - (intOf v).toNat)
              case atStart => exact ⟨0, Nat.zero_le _, rfl, Pu.refl _⟩
              case round =>
                obtain ⟨t, ht, rfl, hPt⟩ := hrel
                by_cases htl : t < l5.length
                · obtain ⟨p, hp⟩ : ∃ p, l5[t]? = some p := ⟨_, List.getElem?_eq_getElem htl⟩
                  obtain ⟨x5, y5⟩ := p
                  obtain ⟨q5, o5, ea5, hq5, c51, c52⟩ := prs_at (S5.pu hPt) hp
                  first | subst ea5 | (injection ea5 with ea5; injection ea5 with e1 e2; subst e1 e2)
                  obtain ⟨q6, o6, rfl, hq6, c61, c62⟩ := prs_at (S6.pu hPt) hp
                  obtain ⟨q7, o7, u7, rfl, hq7, hu7, c71⟩ := (S7.pu hPt).at_ htl
                  have eu : u7 = .int .i64 x5 := by
                    rw [List.getElem?_map, List.getElem?_map, hp] at hu7
                    injection hu7 with hu7
                    exact hu7.symm
                  subst eu
                  clear hu7 hp
                  simp only at c51 c52 c61 c62
                  go_wp2_with fail
                  go_quiet (fail)
                  go_wp2
                  go_roundw
                  case rel => exact ⟨t + 1, by omega, by go_num, by repeat (first | exact hPt | apply Pu.drewN | apply Pu.drew | apply Pu.alloc)⟩
                  case measure => simp [intOf]; omega
                · go_wp2
                  go_roundw
                  case rel => exact ⟨j + 1, b5, _, _, l5.length, _, l5, by omega, rfl, rfl, by go_num, hM7.pu hPt, own_pu hO7 hPt, by omega, hP8.trans hPt⟩
                  case measure => simp [intOf]; omega
          · by_cases k4 : kd = 4
            · subst k4
              go_wp2_with fail
              refine (copy_any _ b r l _ hM4).mono ?_
              rintro e v3 ⟨b5, r5, rfl, hM3, h3⟩
              have hM4' := hM4.pu h3
              have hlt3 := hM3.lt
              have hrow3 := hM3.row
              simp at hlt3 hrow3
              have hbO3 := hbO.pu h3
              have q1 : v3.cell? ⟨wr.heap.size, 1, none⟩ = some (.int .i64 x) := hbO3.cell 1
              have q2 : v3.cell? ⟨wr.heap.size, 2, none⟩ = some (.int .i64 y) := hbO3.cell 2
              have hO3 := own_pu hO4 h3
              have hP3 := hP4.trans h3
              have Hrow3 := Lib.hid hrow3
              clear hrow3
              go_wp2_with fail
              refine (put_any _ b r l x _ _ hM4' (by omega)).mono ?_
              rintro e v5 ⟨rfl, r9, hM9, hF⟩
              have hO5 := ref_keep hO3 hM4' hF
              have hP5 : Pu w v5 := hP3.step hF (Hst.out)
              have hM5 := (hM3.fr hF (fun hi => by
                rcases hi with e | e
                · omega
                · have := (Hrow.out _ e).2.1
                  omega) (fun g hg hi => by
                have h1 := (Hrow3.out g hg).1
                rcases hi with e | e
                · omega
                · have := (Hrow.out _ e).2.1
                  omega)).base_ (show w.heap.size ≤ _ from hP4.size)
              have hll5 : l.length ≤ j + 1 := by omega
              clear hM4 hM4' hM3 hO4 hO3 hP4 hP3 h3 hF hM9 hbO hbO3 q1 q2
              obtain ⟨l5, hl5⟩ : ∃ l5, l5 = l := ⟨_, rfl⟩
              obtain ⟨n5, hn5⟩ : ∃ n5, n5 = n := ⟨_, rfl⟩
              subst hl5 hn5
              have en5 : l5.length = n5 := (Sl.of_own hO5).prs_len
              subst en5
              go_wp2_with fail
              refine (pairs_any _ b5 _ l5 _ hM5).mono ?_
              rintro e v6 ⟨A6, n6, c6, rfl, ho6, hP6⟩
              have e6 : l5.length = n6 := (Sl.of_own ho6).prs_len
              subst e6
              go_wp2_with fail
              refine (keys_any _ b5 _ l5 _ (hM5.pu hP6)).mono ?_
              rintro e v7 ⟨A7, n7, c7, rfl, ho7, hP7⟩
              have e7 : l5.length = n7 := by have := ho7.1; simpa [ivs, keys] using this
              subst e7
              go_wp2_with fail
              refine (mlen_any _ b5 _ l5 _ (hM5.pu (hP6.trans hP7))).mono ?_
              rintro e v8 ⟨rfl, rfl⟩
              have hP67 := hP6.trans hP7
              have hM7 := hM5.pu hP67
              have hO7 := own_pu hO5 hP67
              have hP8 := hP5.trans hP67
              have S5 := Sl.of_own hO7
              have S6 := Sl.of_own (own_pu ho6 hP7)
              have S7 := Sl.of_own ho7
              clear hM5 hO5 hP5 ho6 ho7 hP6 hP7 hP67
              go_wp2_with fail
              go_loopw [146] (fun v ws => ∃ t : Nat, t ≤ l5.length ∧ v = .int .i64 t ∧ Pu v7 ws) (fun v _ => l5.length - (intOf v).toNat)
              case atStart => exact ⟨0, Nat.zero_le _, rfl, Pu.refl _⟩
              case round =>
                obtain ⟨t, ht, rfl, hPt⟩ := hrel
                by_cases htl : t < l5.length
                · obtain ⟨p, hp⟩ : ∃ p, l5[t]? = some p := ⟨_, List.getElem?_eq_getElem htl⟩
                  obtain ⟨x5, y5⟩ := p
                  obtain ⟨q5, o5, ea5, hq5, c51, c52⟩ := prs_at (S5.pu hPt) hp
                  first | subst ea5 | (injection ea5 with ea5; injection ea5 with e1 e2; subst e1 e2)
                  obtain ⟨q6, o6, rfl, hq6, c61, c62⟩ := prs_at (S6.pu hPt) hp
                  obtain ⟨q7, o7, u7, rfl, hq7, hu7, c71⟩ := (S7.pu hPt).at_ htl
                  have eu : u7 = .int .i64 x5 := by
                    rw [List.getElem?_map, List.getElem?_map, hp] at hu7
                    injection hu7 with hu7
                    exact hu7.symm
                  subst eu
                  clear hu7 hp
                  simp only at c51 c52 c61 c62
                  go_wp2_with fail
                  go_quiet (fail)
                  go_wp2
                  go_roundw
                  case rel => exact ⟨t + 1, by omega, by go_num, by repeat (first | exact hPt | apply Pu.drewN | apply Pu.drew | apply Pu.alloc)⟩
                  case measure => simp [intOf]; omega
                · go_wp2
                  go_roundw
                  case rel => exact ⟨j + 1, b5, _, _, l5.length, _, l5, by omega, rfl, rfl, by go_num, hM7.pu hPt, own_pu hO7 hPt, by omega, hP8.trans hPt⟩
                  case measure => simp [intOf]; omega
            · skip
              have hO5 := hO4
              have hM5 := hM4
              have hP5 := hP4
              have hll5 : l.length ≤ j + 1 := by omega
              clear hM4 hO4 hP4
              obtain ⟨b5, hb5⟩ : ∃ b5, b5 = b := ⟨_, rfl⟩
              obtain ⟨l5, hl5⟩ : ∃ l5, l5 = l := ⟨_, rfl⟩
              obtain ⟨n5, hn5⟩ : ∃ n5, n5 = n := ⟨_, rfl⟩
              subst hb5 hl5 hn5
              have en5 : l5.length = n5 := (Sl.of_own hO5).prs_len
              subst en5
              go_wp2_with fail
              refine (pairs_any _ b5 _ l5 _ hM5).mono ?_
              rintro e v6 ⟨A6, n6, c6, rfl, ho6, hP6⟩
              have e6 : l5.length = n6 := (Sl.of_own ho6).prs_len
              subst e6
              go_wp2_with fail
              refine (keys_any _ b5 _ l5 _ (hM5.pu hP6)).mono ?_
              rintro e v7 ⟨A7, n7, c7, rfl, ho7, hP7⟩
              have e7 : l5.length = n7 := by have := ho7.1; simpa [ivs, keys] using this
              subst e7
              go_wp2_with fail
              refine (mlen_any _ b5 _ l5 _ (hM5.pu (hP6.trans hP7))).mono ?_
              rintro e v8 ⟨rfl, rfl⟩
              have hP67 := hP6.trans hP7
              have hM7 := hM5.pu hP67
              have hO7 := own_pu hO5 hP67
              have hP8 := hP5.trans hP67
              have S5 := Sl.of_own hO7
              have S6 := Sl.of_own (own_pu ho6 hP7)
              have S7 := Sl.of_own ho7
              clear hM5 hO5 hP5 ho6 ho7 hP6 hP7 hP67
              go_wp2_with fail
              go_loopw [146] (fun v ws => ∃ t : Nat, t ≤ l5.length ∧ v = .int .i64 t ∧ Pu v7 ws) (fun v _ => l5.length - (intOf v).toNat)
              case atStart => exact ⟨0, Nat.zero_le _, rfl, Pu.refl _⟩
              case round =>
                obtain ⟨t, ht, rfl, hPt⟩ := hrel
                by_cases htl : t < l5.length
                · obtain ⟨p, hp⟩ : ∃ p, l5[t]? = some p := ⟨_, List.getElem?_eq_getElem htl⟩
                  obtain ⟨x5, y5⟩ := p
                  obtain ⟨q5, o5, ea5, hq5, c51, c52⟩ := prs_at (S5.pu hPt) hp
                  first | subst ea5 | (injection ea5 with ea5; injection ea5 with e1 e2; subst e1 e2)
                  obtain ⟨q6, o6, rfl, hq6, c61, c62⟩ := prs_at (S6.pu hPt) hp
                  obtain ⟨q7, o7, u7, rfl, hq7, hu7, c71⟩ := (S7.pu hPt).at_ htl
                  have eu : u7 = .int .i64 x5 := by
                    rw [List.getElem?_map, List.getElem?_map, hp] at hu7
                    injection hu7 with hu7
                    exact hu7.symm
                  subst eu
                  clear hu7 hp
                  simp only at c51 c52 c61 c62
                  go_wp2_with fail
                  go_quiet (fail)
                  go_wp2
                  go_roundw
                  case rel => exact ⟨t + 1, by omega, by go_num, by repeat (first | exact hPt | apply Pu.drewN | apply Pu.drew | apply Pu.alloc)⟩
                  case measure => simp [intOf]; omega
                · go_wp2
                  go_roundw
                  case rel => exact ⟨j + 1, b5, _, _, l5.length, _, l5, by omega, rfl, rfl, by go_num, hM7.pu hPt, own_pu hO7 hPt, by omega, hP8.trans hPt⟩
                  case measure => simp [intOf]; omega
    · obtain rfl : j = m := by omega
      go_wp2
      go_ret
      exact ⟨rfl, hPs⟩

set_option maxRecDepth 100000 in
theorem maps_big (B : Option Addr) (m d : Nat) (w : World) (hm : m ≤ 9223372036854775807) (hb : 100 < m) :
    Calls Try.prog 7 #[.slice B m d] w fun e w' => e = .returned (.bool true) ∧ Pu w w' := by
  go_enter Try.func7, Try.ntmps7
  go_wp2_with fail
  refine (anchor_any _).mono ?_
  rintro e w1 ⟨rfl, H1⟩
  go_wp2
  go_ret
  exact ⟨rfl, H1⟩
end Go.Proofs.Ytckfnbckoclhpaa
