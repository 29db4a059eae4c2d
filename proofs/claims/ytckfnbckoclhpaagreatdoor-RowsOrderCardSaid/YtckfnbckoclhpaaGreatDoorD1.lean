/- The law RowsOrder, walked. -/
import Derived.Test.YtckfnbckoclhpaaGreatDoorC28
namespace Go.Proofs.YtckfnbckoclhpaaGreatDoor
section
set_option linter.unusedVariables false
set_option linter.unusedSimpArgs false
open Go.RowKit
section
variable {P : Program} {w : World} {ops : Array Oper} {rest : List Oper} {o : Oper} {a : Act} {Q : Exit → Act → World → Prop}
theorem wpList_pushM {t e e' : TypeId} {z : Value} {size bytes : Nat} (E : ElemI P t e z size bytes) (hgd : o.guard = none) (s x : Operand)
    (ho : o.op = .call { callee := .builtin .append, args := #[s, x], argTypes := #[t, t] })
    {base n c q m cx : Nat} {A : Option Addr} {xs : List Value} (us : Array Value) (hus : us.size = m * size) (hm : 0 < m) (h1 : ∀ u ∈ us.toList, u.oneCell' = true)
    (hs : a.eval s = .slice A n c) (hx : a.eval x = .slice (some ⟨q, 0, none⟩) m cx) (hq : Blk w q e' us)
    (hown : w.ownsRow base e size (.slice A n c) n xs) (h63 : n + m ≤ maxLen) (hbytes : (n + m) * bytes ≤ 140737488355328) (hbase : base ≤ w.heap.size)
    (h : ∀ g c' w', w'.ownsRow base e size (.slice (some ⟨g, 0, none⟩) (n + m) c') (n + m) (xs ++ us.toList) → w.grownBy w' (Value.slice A n c).ownBlock → ((Value.slice A n c).ownBlock = some g ∨ g = w.heap.size) → wpList P ops Q rest (a.put o.dst (.slice (some ⟨g, 0, none⟩) (n + m) c')) w') :
    wpList P ops Q (o :: rest) a w := by
  obtain ⟨i, hi, hz, hsz, hby⟩ := info_parts E.info
  refine wpList_append_lies _ hgd s x t ho base e i z size bytes E.under hi hz hsz hby E.zs E.pos _ _ _ hs hown ⟨q, 0, none⟩ m cx us.toList hx (by simpa using hus) (fun j u hu => ?_) h1 hm h63 hbytes hbase w.heap.size rfl ?_
  · rw [add_zero_, hq.cell]
    simpa using hu
  · intro g cap w' ho' hg hw _
    exact h g cap w' ho' hg hw
end
theorem own_resl {w : World} {base n n' c : Nat} {e : TypeId} {k : Nat} {A : Option Addr} {xs : List Value} (h : w.ownsRow base e k (.slice A n c) n xs) (hn : n = n') : w.ownsRow base e k (.slice A n' c) n' xs := by rw [← hn]; exact h
set_option maxHeartbeats 4000000 in
set_option maxRecDepth 100000 in
theorem order_walk (A : Option Addr) (n c : Nat) (Q : List RawL) (ls : List LineM) (turn : Int) (w0 : World) (h : SlL w0 A n c Q) (hh : HoldL w0 Q ls) (hn : n ≤ 9223372036854775807) (ht1 : -9223372036854775808 ≤ turn) (ht2 : turn ≤ 9223372036854775807) :
    Calls Tryz.prog 3 #[.slice A n c, .int .i64 turn] w0 fun e w' => e = .returned (.bool true) ∧ Pu w0 w' := by
  go_enter Tryz.func3, Tryz.ntmps3
  go_wp2_with fail
  refine (anchor16_any _).mono ?_
  rintro e w1 ⟨rfl, p1⟩
  go_wp2_with fail
  refine (lboth_any A n c Q ls w1 (h.pu p1) (hh.pu p1) hn).mono ?_
  rintro e w2 ⟨A1, n1, c1, A2, n2, c2, ok, L, rfl, hok, hyes, p2⟩
  have pA := p1.trans p2
  cases ok with
  | false =>
    clear hok hyes
    go_wp2
    go_ret
    exact ⟨rfl, pA⟩
  | true =>
    obtain ⟨rfl, hn14, hS, hX⟩ := hyes rfl
    have Hok := Lib.hid hok.symm
    clear hyes hok
    by_cases htn : turn < 0
    · have hd : decide (turn < 0) = true := decide_eq_true htn
      go_wp2
      go_ret
      exact ⟨rfl, pA⟩
    have hd : decide (turn < 0) = false := decide_eq_false htn
    obtain ⟨t, rfl⟩ : ∃ t : Nat, turn = (t : Int) := ⟨turn.toNat, by omega⟩
    have hH := hX.hold
    have hlen : L.length = n1 := hS.len
    have hll := hH.1
    obtain ⟨l, hle⟩ : ∃ l, l = ls.map rowOf := ⟨_, rfl⟩
    rw [← hle] at hH hll
    have hin : ∀ r ∈ l, Good KK r ∧ Plain r.fs := by rw [hle]; exact rows_in Hok.out
    have HL := Lib.hid (And.intro hlen (And.intro hll hin))
    clear hle hX hlen hll hin
    go_wp2_with fail
    clear hd
    go_loopw [8, 30] (fun bv iv wr => ∃ (i : Nat) (A' : Option Addr) (c' : Nat) (L' : List RawR) (l' : List RowM), i ≤ n1 ∧ iv = .int .i64 (i : Int) ∧ bv = .slice A' (i * 2) c' ∧ wr.ownsRow w2.heap.size 35 4 (.slice A' (i * 2) c') (i * 2) (cat RawR.cells L') ∧ HoldR w2 L' l' ∧ Hid ((∀ r ∈ l', r ∈ l) ∧ ∀ j r, j < i → l[j]? = some r → r ∈ l') ∧ Pu w2 wr) (fun _ iv _ => n1 - (intOf iv).toNat)
    case atStart => exact ⟨0, none, 0, [], [], Nat.zero_le _, rfl, by simp, by simpa [cat] using World.ownsRow_nil w2 w2.heap.size 35 4, HoldR.nil _, Lib.hid ⟨fun r hr => (by cases hr), fun j r hj => absurd hj (Nat.not_lt_zero _)⟩, Pu.refl _⟩
    case round =>
      obtain ⟨i, A', c', L', l', hi, rfl, rfl, ho, hH', hml, hP⟩ := hrel
      by_cases hlt : i < n1
      · have hjlt : (i + t % n1) % n1 < n1 := Nat.mod_lt _ (by omega)
        obtain ⟨j, hj⟩ : ∃ j, (i + t % n1) % n1 = j := ⟨_, rfl⟩
        rw [hj] at hjlt
        obtain ⟨q1, hq1⟩ : ∃ q, L[j]? = some q := ⟨_, List.getElem?_eq_getElem (by rw [HL.out.1]; exact hjlt)⟩
        obtain ⟨q2, hq2⟩ : ∃ q, L[i]? = some q := ⟨_, List.getElem?_eq_getElem (by rw [HL.out.1]; exact hlt)⟩
        obtain ⟨r1, hr1, hri1⟩ := hH.at_ hq1
        obtain ⟨r2, hr2, hri2⟩ := hH.at_ hq2
        obtain ⟨b, off, hAe, hbl, x0, x1, x2, x3⟩ := SlR.at_ (Sl.pu hS hP) hq1
        obtain ⟨b', off', hAe', _, y0, y1, y2, y3⟩ := SlR.at_ (Sl.pu hS hP) hq2
        rw [hAe] at hAe'
        injection hAe' with hAe'
        injection hAe' with e1 e2
        subst e1 e2 hAe
        have hml2 : Hid ((∀ r ∈ l' ++ [r1, r2], r ∈ l) ∧ ∀ j r, j < i + 1 → l[j]? = some r → r ∈ l' ++ [r1, r2]) := Lib.hid ⟨fun r hr => by
          rcases List.mem_append.1 hr with hr | hr
          · exact hml.out.1 r hr
          · rcases List.mem_cons.1 hr with rfl | hr
            · exact List.mem_of_getElem? hr1
            · rw [List.mem_singleton.1 hr]
              exact List.mem_of_getElem? hr2, fun k r hk hr => by
          by_cases hki : k = i
          · rw [hki, hr2] at hr
            rw [← Option.some.inj hr]
            simp
          · exact List.mem_append_left _ (hml.out.2 k r (by omega) hr)⟩
        have hH2 : HoldR w2 (L' ++ [q1, q2]) (l' ++ [r1, r2]) := hH'.append (hold_two hri1 hri2)
        have hmt : ((t : Int).tmod (n1 : Int)) = (t : Int) % (n1 : Int) := Int.tmod_eq_emod_of_nonneg (by omega)
        have hsumlt : t % n1 < n1 := Nat.mod_lt _ (by omega)
        have hw1 : IntKind.i64.wrap ((i : Int) + (t : Int) % (n1 : Int)) = (i : Int) + (t : Int) % (n1 : Int) := IntWalk.i64_in _ (by
          rw [show (t : Int) % (n1 : Int) = ((t % n1 : Nat) : Int) from rfl]
          omega)
        have hmt2 : (((i : Int) + (t : Int) % (n1 : Int)).tmod (n1 : Int)) = (j : Int) := by
          rw [show (t : Int) % (n1 : Int) = ((t % n1 : Nat) : Int) from rfl, Int.tmod_eq_emod_of_nonneg (by omega), ← hj]
          rfl
        have hn0 : ¬ n1 = 0 := by omega
        have hwi : IntKind.i64.wrap ((i : Int) + 1) = (i : Int) + 1 := IntWalk.i64_in _ (by omega)
        have Hj := Lib.hid hj
        have Hm1 := Lib.hid hmt
        have Hm2 := Lib.hid hmt2
        have Hw1 := Lib.hid hw1
        have Hwi := Lib.hid hwi
        clear hj hq1 hq2 hr1 hr2 hri1 hri2 hmt hmt2 hw1 hwi hsumlt
        obtain ⟨g1, B1, m1, d1, s1, e1⟩ := q1
        obtain ⟨g2, B2, m2, d2, s2, e2⟩ := q2
        dsimp only at x0 x1 x2 x3 y0 y1 y2 y3
        go_wp2_with fail
        have pd : Pu wr wr.drew := (Pu.refl wr).drew
        refine wp_region_stableA2 18 (fun _ w => Pu wr w) (fun _ => Pu) (fun io => match io with | 0 => fun vv_ _ => vv_ = .slice A' (i * 2) c' | 1 => fun vv_ _ => vv_ = .slice (some ⟨b, off, none⟩) n1 c1 | 2 => fun vv_ _ => vv_ = .int .i64 (i : Int) | 3 => fun vv_ _ => vv_ = .int .i64 (t : Int) | 4 => fun vv_ _ => vv_ = .slice (some ⟨b, off, none⟩) n1 c1 | 5 => fun vv_ _ => vv_ = .int .i64 (n1 : Int) | 6 => fun vv_ _ => vv_ = .int .i64 ((t : Int) % (n1 : Int)) | 7 => fun vv_ _ => vv_ = .int .i64 ((i : Int) + (t : Int) % (n1 : Int)) | 8 => fun vv_ _ => vv_ = .slice (some ⟨b, off, none⟩) n1 c1 | 9 => fun vv_ _ => vv_ = .int .i64 (n1 : Int) | 10 => fun vv_ _ => vv_ = .int .i64 (j : Int) | 11 => fun vv_ _ => vv_ = .pointer (some ⟨b, off + j * 4, none⟩) | 12 => fun vv_ _ => vv_ = .agg #[.bool g1, .slice B1 m1 d1, .pointer s1, .bool e1] | 13 => fun vv_ _ => vv_ = .slice (some ⟨b, off, none⟩) n1 c1 | 14 => fun vv_ _ => vv_ = .int .i64 (i : Int) | 15 => fun vv_ _ => vv_ = .pointer (some ⟨b, off + i * 4, none⟩) | 16 => fun vv_ _ => vv_ = .agg #[.bool g2, .slice B2 m2 d2, .pointer s2, .bool e2] | 17 => fun v w => ∃ q, v = .slice (some ⟨q, 0, none⟩) 2 2 ∧ Blk w q 35 #[.bool g1, .slice B1 m1 d1, .pointer s1, .bool e1, .bool g2, .slice B2 m2 d2, .pointer s2, .bool e2] | _ => fun _ _ => True) [some 33, some 34, some 35, some 36, some 37, some 38, some 39, some 40, some 41, some 42, some 43, some 44, some 45, some 46, some 47, some 48, some 49, some 50] (by kernel_rfl) (by kernel_rfl) rfl pd ?_ ?_ ?_ ?_
        · intro ko lst u u' hk hLk hI hR
          exact hI.trans hR
        · intro io ko v u u' hi hk hik h hR0
          have hR := hR0
          match io, hi, hik, h with
          | 0, _, _, h => exact h
          | 1, _, _, h => exact h
          | 2, _, _, h => exact h
          | 3, _, _, h => exact h
          | 4, _, _, h => exact h
          | 5, _, _, h => exact h
          | 6, _, _, h => exact h
          | 7, _, _, h => exact h
          | 8, _, _, h => exact h
          | 9, _, _, h => exact h
          | 10, _, _, h => exact h
          | 11, _, _, h => exact h
          | 12, _, _, h => exact h
          | 13, _, _, h => exact h
          | 14, _, _, h => exact h
          | 15, _, _, h => exact h
          | 16, _, _, h => exact h
          | 17, _, hik, h =>
            replace h : ∃ q, v = .slice (some ⟨q, 0, none⟩) 2 2 ∧ Blk u q 35 #[.bool g1, .slice B1 m1 d1, .pointer s1, .bool e1, .bool g2, .slice B2 m2 d2, .pointer s2, .bool e2] := h
            obtain ⟨q, e, h⟩ := h
            exact ⟨q, e, h.pu hR⟩
          | _ + 18, hi, _, _ => exact absurd hi (by omega)
        · refine StepsS.cons [] rfl (by kernel_rfl) (fun y lst V hLk hV hp K hK => ?_) ?_
          · try dsimp only at hK
            simp only [putsL, upd, Act.put, List.setIfInBounds_toArray, List.set_cons_zero, List.set_cons_succ, Nat.reduceEqDiff, Nat.succ_ne_zero, Nat.reduceAdd, zero_ne_one_, one_ne_zero_, reduceIte] at hK ⊢
            clear hp
            try dsimp only at hV
            go_simp
            exact hK.out _ _ (Pu.refl _) rfl
          refine StepsS.cons [] rfl (by kernel_rfl) (fun y lst V hLk hV hp K hK => ?_) ?_
          · try dsimp only at hK
            simp only [putsL, upd, Act.put, List.setIfInBounds_toArray, List.set_cons_zero, List.set_cons_succ, Nat.reduceEqDiff, Nat.succ_ne_zero, Nat.reduceAdd, zero_ne_one_, one_ne_zero_, reduceIte] at hK ⊢
            clear hp
            try dsimp only at hV
            go_simp
            exact hK.out _ _ (Pu.refl _) rfl
          refine StepsS.cons [] rfl (by kernel_rfl) (fun y lst V hLk hV hp K hK => ?_) ?_
          · try dsimp only at hK
            simp only [putsL, upd, Act.put, List.setIfInBounds_toArray, List.set_cons_zero, List.set_cons_succ, Nat.reduceEqDiff, Nat.succ_ne_zero, Nat.reduceAdd, zero_ne_one_, one_ne_zero_, reduceIte] at hK ⊢
            clear hp
            try dsimp only at hV
            go_simp
            exact hK.out _ _ (Pu.refl _) rfl
          refine StepsS.cons [] rfl (by kernel_rfl) (fun y lst V hLk hV hp K hK => ?_) ?_
          · try dsimp only at hK
            simp only [putsL, upd, Act.put, List.setIfInBounds_toArray, List.set_cons_zero, List.set_cons_succ, Nat.reduceEqDiff, Nat.succ_ne_zero, Nat.reduceAdd, zero_ne_one_, one_ne_zero_, reduceIte] at hK ⊢
            clear hp
            try dsimp only at hV
            go_simp
            exact hK.out _ _ (Pu.refl _) rfl
          refine StepsS.cons [] rfl (by kernel_rfl) (fun y lst V hLk hV hp K hK => ?_) ?_
          · try dsimp only at hK
            simp only [putsL, upd, Act.put, List.setIfInBounds_toArray, List.set_cons_zero, List.set_cons_succ, Nat.reduceEqDiff, Nat.succ_ne_zero, Nat.reduceAdd, zero_ne_one_, one_ne_zero_, reduceIte] at hK ⊢
            clear hp
            try dsimp only at hV
            go_simp
            exact hK.out _ _ (Pu.refl _) rfl
          refine StepsS.cons [4] rfl (by kernel_rfl) (fun y lst V hLk hV hp K hK => ?_) ?_
          · try dsimp only at hK
            simp only [putsL, upd, Act.put, List.setIfInBounds_toArray, List.set_cons_zero, List.set_cons_succ, Nat.reduceEqDiff, Nat.succ_ne_zero, Nat.reduceAdd, zero_ne_one_, one_ne_zero_, reduceIte] at hK ⊢
            have e4 := hp 4 (by simp)
            clear hp
            try dsimp only at hV e4
            generalize y 4 = z4 at hK e4 ⊢
            subst e4
            go_simp
            exact hK.out _ _ (Pu.refl _) rfl
          refine StepsS.cons [3, 5] rfl (by kernel_rfl) (fun y lst V hLk hV hp K hK => ?_) ?_
          · try dsimp only at hK
            simp only [putsL, upd, Act.put, List.setIfInBounds_toArray, List.set_cons_zero, List.set_cons_succ, Nat.reduceEqDiff, Nat.succ_ne_zero, Nat.reduceAdd, zero_ne_one_, one_ne_zero_, reduceIte] at hK ⊢
            have e3 := hp 3 (by simp)
            have e5 := hp 5 (by simp)
            clear hp
            try dsimp only at hV e3 e5
            generalize y 3 = z3 at hK e3 ⊢
            generalize y 5 = z5 at hK e5 ⊢
            subst e3
            subst e5
            go_simp
            rw [Hm1.out]
            exact hK.out _ _ (Pu.refl _) rfl
          refine StepsS.cons [2, 6] rfl (by kernel_rfl) (fun y lst V hLk hV hp K hK => ?_) ?_
          · try dsimp only at hK
            simp only [putsL, upd, Act.put, List.setIfInBounds_toArray, List.set_cons_zero, List.set_cons_succ, Nat.reduceEqDiff, Nat.succ_ne_zero, Nat.reduceAdd, zero_ne_one_, one_ne_zero_, reduceIte] at hK ⊢
            have e2' := hp 2 (by simp)
            have e6 := hp 6 (by simp)
            clear hp
            try dsimp only at hV e2' e6
            generalize y 2 = z2 at hK e2' ⊢
            generalize y 6 = z6 at hK e6 ⊢
            subst e2'
            subst e6
            go_simp
            try rw [Hw1.out]
            exact hK.out _ _ (Pu.refl _) rfl
          refine StepsS.cons [] rfl (by kernel_rfl) (fun y lst V hLk hV hp K hK => ?_) ?_
          · try dsimp only at hK
            simp only [putsL, upd, Act.put, List.setIfInBounds_toArray, List.set_cons_zero, List.set_cons_succ, Nat.reduceEqDiff, Nat.succ_ne_zero, Nat.reduceAdd, zero_ne_one_, one_ne_zero_, reduceIte] at hK ⊢
            clear hp
            try dsimp only at hV
            go_simp
            exact hK.out _ _ (Pu.refl _) rfl
          refine StepsS.cons [8] rfl (by kernel_rfl) (fun y lst V hLk hV hp K hK => ?_) ?_
          · try dsimp only at hK
            simp only [putsL, upd, Act.put, List.setIfInBounds_toArray, List.set_cons_zero, List.set_cons_succ, Nat.reduceEqDiff, Nat.succ_ne_zero, Nat.reduceAdd, zero_ne_one_, one_ne_zero_, reduceIte] at hK ⊢
            have e8 := hp 8 (by simp)
            clear hp
            try dsimp only at hV e8
            generalize y 8 = z8 at hK e8 ⊢
            subst e8
            go_simp
            exact hK.out _ _ (Pu.refl _) rfl
          refine StepsS.cons [7, 9] rfl (by kernel_rfl) (fun y lst V hLk hV hp K hK => ?_) ?_
          · try dsimp only at hK
            simp only [putsL, upd, Act.put, List.setIfInBounds_toArray, List.set_cons_zero, List.set_cons_succ, Nat.reduceEqDiff, Nat.succ_ne_zero, Nat.reduceAdd, zero_ne_one_, one_ne_zero_, reduceIte] at hK ⊢
            have e7 := hp 7 (by simp)
            have e9 := hp 9 (by simp)
            clear hp
            try dsimp only at hV e7 e9
            generalize y 7 = z7 at hK e7 ⊢
            generalize y 9 = z9 at hK e9 ⊢
            subst e7
            subst e9
            go_simp
            rw [Hm2.out]
            exact hK.out _ _ (Pu.refl _) rfl
          refine StepsS.cons [1, 10] rfl (by kernel_rfl) (fun y lst V hLk hV hp K hK => ?_) ?_
          · try dsimp only at hK
            simp only [putsL, upd, Act.put, List.setIfInBounds_toArray, List.set_cons_zero, List.set_cons_succ, Nat.reduceEqDiff, Nat.succ_ne_zero, Nat.reduceAdd, zero_ne_one_, one_ne_zero_, reduceIte] at hK ⊢
            have e1' := hp 1 (by simp)
            have e10 := hp 10 (by simp)
            clear hp
            try dsimp only at hV e1' e10
            generalize y 1 = z1 at hK e1' ⊢
            generalize y 10 = z10 at hK e10 ⊢
            subst e1'
            subst e10
            go_simp
            exact hK.out _ _ (Pu.refl _) rfl
          refine StepsS.cons [11] rfl (by kernel_rfl) (fun y lst V hLk hV hp K hK => ?_) ?_
          · try dsimp only at hK
            simp only [putsL, upd, Act.put, List.setIfInBounds_toArray, List.set_cons_zero, List.set_cons_succ, Nat.reduceEqDiff, Nat.succ_ne_zero, Nat.reduceAdd, zero_ne_one_, one_ne_zero_, reduceIte] at hK ⊢
            have e11 := hp 11 (by simp)
            clear hp
            try dsimp only at hV e11
            generalize y 11 = z11 at hK e11 ⊢
            subst e11
            have z0 := hV.cellv x0
            have z1 := hV.cellv x1
            have z2 := hV.cellv x2
            have z3 := hV.cellv x3
            go_simp
            exact hK.out _ _ (Pu.refl _) rfl
          refine StepsS.cons [] rfl (by kernel_rfl) (fun y lst V hLk hV hp K hK => ?_) ?_
          · try dsimp only at hK
            simp only [putsL, upd, Act.put, List.setIfInBounds_toArray, List.set_cons_zero, List.set_cons_succ, Nat.reduceEqDiff, Nat.succ_ne_zero, Nat.reduceAdd, zero_ne_one_, one_ne_zero_, reduceIte] at hK ⊢
            clear hp
            try dsimp only at hV
            go_simp
            exact hK.out _ _ (Pu.refl _) rfl
          refine StepsS.cons [] rfl (by kernel_rfl) (fun y lst V hLk hV hp K hK => ?_) ?_
          · try dsimp only at hK
            simp only [putsL, upd, Act.put, List.setIfInBounds_toArray, List.set_cons_zero, List.set_cons_succ, Nat.reduceEqDiff, Nat.succ_ne_zero, Nat.reduceAdd, zero_ne_one_, one_ne_zero_, reduceIte] at hK ⊢
            clear hp
            try dsimp only at hV
            go_simp
            exact hK.out _ _ (Pu.refl _) rfl
          refine StepsS.cons [13, 14] rfl (by kernel_rfl) (fun y lst V hLk hV hp K hK => ?_) ?_
          · try dsimp only at hK
            simp only [putsL, upd, Act.put, List.setIfInBounds_toArray, List.set_cons_zero, List.set_cons_succ, Nat.reduceEqDiff, Nat.succ_ne_zero, Nat.reduceAdd, zero_ne_one_, one_ne_zero_, reduceIte] at hK ⊢
            have e13 := hp 13 (by simp)
            have e14 := hp 14 (by simp)
            clear hp
            try dsimp only at hV e13 e14
            generalize y 13 = z13 at hK e13 ⊢
            generalize y 14 = z14 at hK e14 ⊢
            subst e13
            subst e14
            go_simp
            exact hK.out _ _ (Pu.refl _) rfl
          refine StepsS.cons [15] rfl (by kernel_rfl) (fun y lst V hLk hV hp K hK => ?_) ?_
          · try dsimp only at hK
            simp only [putsL, upd, Act.put, List.setIfInBounds_toArray, List.set_cons_zero, List.set_cons_succ, Nat.reduceEqDiff, Nat.succ_ne_zero, Nat.reduceAdd, zero_ne_one_, one_ne_zero_, reduceIte] at hK ⊢
            have e15 := hp 15 (by simp)
            clear hp
            try dsimp only at hV e15
            generalize y 15 = z15 at hK e15 ⊢
            subst e15
            have z0 := hV.cellv y0
            have z1 := hV.cellv y1
            have z2 := hV.cellv y2
            have z3 := hV.cellv y3
            go_simp
            exact hK.out _ _ (Pu.refl _) rfl
          refine StepsS.cons [12, 16] rfl (by kernel_rfl) (fun y lst V hLk hV hp K hK => ?_) ?_
          · try dsimp only at hK
            simp only [putsL, upd, Act.put, List.setIfInBounds_toArray, List.set_cons_zero, List.set_cons_succ, Nat.reduceEqDiff, Nat.succ_ne_zero, Nat.reduceAdd, zero_ne_one_, one_ne_zero_, reduceIte] at hK ⊢
            have e12 := hp 12 (by simp)
            have e16 := hp 16 (by simp)
            clear hp
            try dsimp only at hV e12 e16
            generalize y 12 = z12 at hK e12 ⊢
            generalize y 16 = z16 at hK e16 ⊢
            subst e12
            subst e16
            go_simp
            exact hK.out _ _ ((Pu.refl _).alloc _) ⟨_, rfl, Blk.new _ _ _⟩
          exact StepsS.nil
        · intro y V lst hL hV hp
          have f0 := hp 0 (by decide)
          have f1 := hp 1 (by decide)
          have f2 := hp 2 (by decide)
          have f3 := hp 3 (by decide)
          have f4 := hp 4 (by decide)
          have f5 := hp 5 (by decide)
          have f6 := hp 6 (by decide)
          have f7 := hp 7 (by decide)
          have f8 := hp 8 (by decide)
          have f9 := hp 9 (by decide)
          have f10 := hp 10 (by decide)
          have f11 := hp 11 (by decide)
          have f12 := hp 12 (by decide)
          have f13 := hp 13 (by decide)
          have f14 := hp 14 (by decide)
          have f15 := hp 15 (by decide)
          have f16 := hp 16 (by decide)
          have f17 := hp 17 (by decide)
          clear hp
          try dsimp only at hV f0 f1 f2 f3 f4 f5 f6 f7 f8 f9 f10 f11 f12 f13 f14 f15 f16 f17
          simp only [putsL, upd, Act.put, List.setIfInBounds_toArray, List.set_cons_zero, List.set_cons_succ, Nat.reduceEqDiff, Nat.succ_ne_zero, Nat.reduceAdd, zero_ne_one_, one_ne_zero_, reduceIte]
          generalize y 0 = z0 at f0 ⊢
          generalize y 1 = z1 at f1 ⊢
          generalize y 2 = z2 at f2 ⊢
          generalize y 3 = z3 at f3 ⊢
          generalize y 4 = z4 at f4 ⊢
          generalize y 5 = z5 at f5 ⊢
          generalize y 6 = z6 at f6 ⊢
          generalize y 7 = z7 at f7 ⊢
          generalize y 8 = z8 at f8 ⊢
          generalize y 9 = z9 at f9 ⊢
          generalize y 10 = z10 at f10 ⊢
          generalize y 11 = z11 at f11 ⊢
          generalize y 12 = z12 at f12 ⊢
          generalize y 13 = z13 at f13 ⊢
          generalize y 14 = z14 at f14 ⊢
          generalize y 15 = z15 at f15 ⊢
          generalize y 16 = z16 at f16 ⊢
          generalize y 17 = z17 at f17 ⊢
          subst f0
          subst f1
          subst f2
          subst f3
          subst f4
          subst f5
          subst f6
          subst f7
          subst f8
          subst f9
          subst f10
          subst f11
          subst f12
          subst f13
          subst f14
          subst f15
          subst f16
          obtain ⟨q, rfl, hB⟩ := f17
          have hoU := own_pu ho (hV)
          have hbs : w2.heap.size ≤ V.heap.size := Nat.le_trans hP.size hV.size
          go_wp2_with (at_builtin; refine wpList_pushM eiRow rfl _ _ rfl #[.bool g1, .slice B1 m1 d1, .pointer s1, .bool e1, .bool g2, .slice B2 m2 d2, .pointer s2, .bool e2] rfl (by decide) (by intro u hu; simp at hu; rcases hu with rfl | rfl | rfl | rfl | rfl | rfl | rfl | rfl <;> rfl) rfl rfl hB hoU (by simp [maxLen]; omega) (by omega) hbs ?_)
          intro g4 c4 w4 ho4 hg4 hw4
          have hP4 : Pu w2 w4 := (hP.trans hV).grown hg4 (fun k hk => (hoU.lt k hk).1)
          have ho5 := own_resl ho4 (show i * 2 + 2 = (i + 1) * 2 by omega)
          have HF := Lib.hid (And.intro ho5 hP4)
          clear ho4 ho5 hg4 hw4 hP4 hoU
          have hwi := Hwi.out
          go_wp2
          go_roundw
          case rel => exact ⟨i + 1, some ⟨g4, 0, none⟩, c4, L' ++ [⟨g1, B1, m1, d1, s1, e1⟩, ⟨g2, B2, m2, d2, s2, e2⟩], _, by omega, by go_num, by rw [show i * 2 + 2 = (i + 1) * 2 by omega], by rw [cat_append]; exact HF.out.1, hH2, hml2, HF.out.2⟩
          case measure => simp [intOf]; omega
      · obtain rfl : i = n1 := by omega
        have hiff : ∀ r, r ∈ l ↔ r ∈ l' := fun r => ⟨fun hr => by
          obtain ⟨k, hk⟩ := List.getElem?_of_mem hr
          have hlt := (List.getElem?_eq_some_iff.1 hk).1
          exact hml.out.2 k r (by rw [← HL.out.1, HL.out.2.1]; exact hlt) hk, hml.out.1 r⟩
        have hin := HL.out.2.2
        have hsame := learnAll_same (fun r hr => (hin r hr).2) hiff
        have hg1 : ∀ r ∈ l, Good KK r := fun r hr => (hin r hr).1
        have hg2 : ∀ r ∈ l', Good KK r := fun r hr => (hin r ((hiff r).2 hr)).1
        have hXY : ((learnAll l).1 && allOk (learnAll l).2) = ((learnAll l').1 && allOk (learnAll l').2) := by
          rw [← hsame.1]
          cases hx : (learnAll l).1 with
          | false => rfl
          | true => rw [hsame.2 hx]
        obtain ⟨xy, hxy⟩ : ∃ xy, ((learnAll l).1 && allOk (learnAll l).2) = xy := ⟨_, rfl⟩
        rw [hxy] at hXY
        have Ht1 := Lib.hid (tidy_any A1 i c1 KK L l wr (hS.pu hP) (hH.pu hP) hg1 kk_big (by omega))
        have Ht2 := Lib.hid (fun U (pU : Pu wr U) => tidy_any A' (i * 2) c' KK L' l' U ((Sl.of_own ho).pu pU) (hH'.pu (hP.trans pU)) hg2 kk_big (by omega))
        have HS1 := Lib.hid (tidy_sml hg1)
        have HS2 := Lib.hid (tidy_sml hg2)
        have Hsame := Lib.hid hsame
        have Hxy := Lib.hid (And.intro hxy hXY)
        clear hiff hin hsame hg1 hg2 hXY hxy ho hH' hml hS hH
        go_wp2_with fail
        refine Ht1.out.mono ?_
        rintro e w3 ⟨B3, n3, c3, rfl, p3, hy3, hz3⟩
        rw [Hxy.out.1] at hy3 hz3 ⊢
        have H3 := Lib.hid (And.intro hy3 hz3)
        clear hy3 hz3
        go_wp2_with fail
        refine (Ht2.out _ p3).mono ?_
        rintro e w4 ⟨B4, n4, c4, rfl, p4, hy4, hz4⟩
        rw [← Hxy.out.2] at hy4 hz4 ⊢
        have H4 := Lib.hid (And.intro hy4 hz4)
        clear hy4 hz4
        have pE := pA.trans (hP.trans (p3.trans p4))
        cases xy with
        | false =>
          obtain ⟨rfl, rfl, rfl⟩ := H3.out.2 rfl
          obtain ⟨rfl, rfl, rfl⟩ := H4.out.2 rfl
          have hsm := same_any none none 0 0 0 0 [] [] [] [] w4 (Sl.nil _ _ _ _) (Sl.nil _ _ _ _) (HoldR.nil _) (HoldR.nil _) (fun r hr => by cases hr) (fun r hr => by cases hr) (by decide)
          clear H3 H4 Ht1 Ht2
          go_wp2_with fail
          refine hsm.mono ?_
          rintro e w5 ⟨rfl, p5⟩
          go_wp2
          go_ret
          exact ⟨rfl, pE.trans p5⟩
        | true =>
          obtain ⟨L3, l3, hp3, hs3, hsl3, hh3⟩ := H3.out.1 rfl
          obtain ⟨L4, l4, hp4, hs4, hsl4, hh4⟩ := H4.out.1 rfl
          have hl1 : (learnAll l).1 = true := by
            have := Hxy.out.1
            simp only [Bool.and_eq_true] at this
            exact this.1
          have hperm : l3.Perm l4 := hp3.trans (by rw [Hsame.out.2 hl1]; exact hp4.symm)
          have hlook := sorted_look hperm hs3 hs4
          have hsm3 : ∀ r ∈ l3, Sml r := fun r hr => HS1.out r (hp3.mem_iff.1 hr)
          have hsm4 : ∀ r ∈ l4, Sml r := fun r hr => HS2.out r (hp4.mem_iff.1 hr)
          have hn3 : n3 < 4611686018427387904 := by
            have h1 := hsl3.len
            have h2 := hh3.1
            have h3 := hp3.length_eq
            have h4 := all_len (learnAll l).2
            have h5 := (learn_all_good (K := KK) l (true, []) List.Pairwise.nil (fun e he => by cases he) (fun r hr => (HL.out.2.2 r hr).1)).2.2
            have h6 := HL.out.1
            have h7 := HL.out.2.1
            have h8 : ((true, ([] : List (Key × Pr))).2).length = 0 := rfl
            have h9 : (l.foldl learnM (true, [])).2 = (learnAll l).2 := rfl
            rw [h9, h8] at h5
            omega
          have hsm := same_any B3 B4 n3 c3 n4 c4 L3 L4 l3 l4 w4 (hsl3.pu p4) hsl4 (hh3.hold.pu p4) hh4.hold hsm3 hsm4 hn3
          have hdec : decide (l3.map lookR = l4.map lookR) = true := decide_eq_true hlook
          have Hsm := Lib.hid hsm
          have Hdec := Lib.hid hdec
          clear H3 H4 Ht1 Ht2 hsm hdec hlook hperm hsl3 hsl4 hh3 hh4 hp3 hp4 hsm3 hsm4
          go_wp2_with fail
          refine Hsm.out.mono ?_
          rintro e w5 ⟨rfl, p5⟩
          rw [Hdec.out]
          go_wp2
          go_ret
          exact ⟨rfl, pE.trans p5⟩
end
end Go.Proofs.YtckfnbckoclhpaaGreatDoor
