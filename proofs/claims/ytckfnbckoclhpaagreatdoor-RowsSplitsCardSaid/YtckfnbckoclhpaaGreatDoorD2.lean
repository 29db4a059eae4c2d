/- The law RowsSplits, walked. -/
import Derived.Test.YtckfnbckoclhpaaGreatDoorC28
namespace Go.Proofs.YtckfnbckoclhpaaGreatDoor
section
set_option linter.unusedVariables false
set_option linter.unusedSimpArgs false
open Go.RowKit
def BoxIs (u w3 wr : World) (b : Nat) (l : List RowM) : Prop := ∃ B m d M, Blk wr b 24 #[.slice B m d] ∧ SlR u B m d M ∧ HoldR w3 M l ∧ d ≤ maxLen
theorem BoxIs.fr {S : Nat → Prop} {u w3 wr wr' : World} {b : Nat} {l : List RowM} (h : BoxIs u w3 wr b l) (f : Fr S wr wr') (hb : ¬ S b) : BoxIs u w3 wr' b l := by
  obtain ⟨B, m, d, M, h1, h2, h3, h4⟩ := h
  exact ⟨B, m, d, M, h1.fr f hb, h2, h3, h4⟩
theorem BoxIs.pu {u w3 wr wr' : World} {b : Nat} {l : List RowM} (h : BoxIs u w3 wr b l) (f : Pu wr wr') : BoxIs u w3 wr' b l := h.fr f (fun x => x)
theorem HoldR.cons {w : World} {M : List RawR} {r : RowM} {l : List RowM} (h : HoldR w M (r :: l)) : ∃ q M', M = q :: M' ∧ RowIs w q r ∧ HoldR w M' l := by
  match M, h with
  | [], h => exact absurd h.1 (by simp)
  | q :: M', h => exact ⟨q, M', rfl, h.2 0 q r rfl rfl, by simpa using h.1, fun i p x hp hx => h.2 (i + 1) p x (by simpa using hp) (by simpa using hx)⟩
theorem SlR.take1 {w : World} {A : Option Addr} {n c : Nat} {q : RawR} {M : List RawR} (h : SlR w A n c (q :: M)) : SlR w A 1 c [q] := by
  have hl := h.len
  rw [List.length_cons] at hl
  refine ⟨rfl, by have := h.2.1; omega, fun _ => ?_⟩
  obtain ⟨b, off, e, hb, hc⟩ := h.2.2 (by omega)
  refine ⟨b, off, e, hb, fun j u hu => hc j u ?_⟩
  have hj := (List.getElem?_eq_some_iff.1 hu).1
  have e5 : cat RawR.cells (q :: M) = cat RawR.cells [q] ++ cat RawR.cells M := by rw [← cat_append]; rfl
  rw [e5, List.getElem?_append_left hj]
  exact hu
theorem SlR.tail {w : World} {b off n c : Nat} {q : RawR} {M : List RawR} (h : SlR w (some ⟨b, off, none⟩) n c (q :: M)) : SlR w (some ⟨b, off + 4, none⟩) (n - 1) (c - 1) M := by
  have hl := h.len
  rw [List.length_cons] at hl
  have h2 := h.2.1
  refine ⟨by rw [cat_len RawR.cells_len]; omega, by omega, fun hn => ?_⟩
  obtain ⟨b', off', e, hb, hc⟩ := h.2.2 (by omega)
  injection e with e
  injection e with e1 e2
  subst e1 e2
  refine ⟨b, off + 4, rfl, hb, fun j u hu => ?_⟩
  have e5 : cat RawR.cells (q :: M) = cat RawR.cells [q] ++ cat RawR.cells M := by rw [← cat_append]; rfl
  have h4 : (cat RawR.cells [q]).length = 4 := rfl
  have := hc (4 + j) u (by rw [e5, List.getElem?_append_right (by omega), h4, Nat.add_sub_cancel_left]; exact hu)
  rwa [← Nat.add_assoc] at this
theorem partM_cons {k : Key} {s : Nat} {l : List RowM} {i : Nat} {r : RowM} (h : l[i]? = some r) : partM k s (l.drop i) = (if sideM k r = s then [r] else []) ++ partM k s (l.drop (i + 1)) := by
  have hlt := (List.getElem?_eq_some_iff.1 h).1
  have e : l.drop i = r :: l.drop (i + 1) := by
    rw [List.drop_eq_getElem_cons hlt]
    congr 1
    have := List.getElem?_eq_getElem hlt
    rw [h] at this
    exact (Option.some.inj this).symm
  rw [e]
  unfold partM
  by_cases hs : sideM k r = s
  · simp [List.filter_cons, hs]
  · simp [List.filter_cons, hs]
theorem partM_nil (k : Key) (s : Nat) : partM k s [] = [] := rfl
set_option maxHeartbeats 8000000 in
set_option maxRecDepth 100000 in
theorem splits_walk (A : Option Addr) (n c : Nat) (Q : List RawL) (ls : List LineM) (k : Key) (w0 : World) (h : SlL w0 A n c Q) (hh : HoldL w0 Q ls) (hn : n ≤ 9223372036854775807) (hkl : k.length ≤ 9223372036854775807) :
    Calls Tryz.prog 4 #[.slice A n c, .string ⟨k.toArray⟩] w0 fun e w' => e = .returned (.bool true) ∧ Pu w0 w' := by
  go_enter Tryz.func4, Tryz.ntmps4
  go_wp2_with fail
  refine (anchor16_any _).mono ?_
  rintro e w1 ⟨rfl, p1⟩
  go_wp2_with fail
  refine (lboth_any A n c Q ls w1 (h.pu p1) (hh.pu p1) hn).mono ?_
  rintro e w2 ⟨A1, n1, c1, A2, n2, c2, ok, L, rfl, hok, hyes, p2⟩
  have pA := p1.trans p2
  cases ok with
  | false =>
    clear hok hyes
    go_wp2
    go_ret
    exact ⟨rfl, pA⟩
  | true =>
    obtain ⟨rfl, hn14, hS, hX⟩ := hyes rfl
    have Hok := Lib.hid hok.symm
    clear hyes hok
    by_cases hk40 : 40 < k.length
    · have hd : decide ((40 : Int) < (k.length : Int)) = true := by simp; omega
      go_wp2
      go_ret
      exact ⟨rfl, pA⟩
    have hd : decide ((40 : Int) < (k.length : Int)) = false := by simp; omega
    obtain ⟨nm, hnm⟩ : ∃ nm, namedM k = nm := ⟨_, rfl⟩
    have hcall := fun V => named_any k V hkl
    rw [hnm] at hcall
    have Hcall := Lib.hid hcall
    clear hcall hnm
    go_wp2_with fail
    refine (Hcall.out _).mono ?_
    rintro e w3 ⟨rfl, p3⟩
    clear Hcall
    cases nm with
    | false =>
      go_wp2
      go_ret
      exact ⟨rfl, pA.trans p3⟩
    | true =>
      have hH := hX.hold.pu p3
      have hS3 := hS.pu p3
      have hlen : L.length = n1 := hS.len
      have hll := hH.1
      obtain ⟨l, hle⟩ : ∃ l, l = ls.map rowOf := ⟨_, rfl⟩
      rw [← hle] at hH hll
      have hin : ∀ r ∈ l, Good KK r ∧ Plain r.fs := by rw [hle]; exact rows_in Hok.out
      have hfb : ∀ r ∈ l, (factor r.fs k).natAbs < 4294967296 ^ 40000 := fun r hr => up_from (n := (factor r.fs k).natAbs) (a := 3) (b := 40000) (Nat.lt_of_le_of_lt ((hin r hr).1.fs.up.factor k) (by decide)) (by decide)
      have HL := Lib.hid (And.intro hlen (And.intro hll hin))
      have Hfb := Lib.hid hfb
      have hsp := split_any A1 n1 c1 KK L l k w3 hS3 hH hfb (by omega)
      have Hsp := Lib.hid hsp
      have pB := pA.trans p3
      clear hle hX hlen hll hin hfb hsp hd p3 hS
      go_wp2_with fail
      refine Hsp.out.mono ?_
      rintro e u ⟨A0, n0, c0, A3, n3, c3, A4, n4, c4, L0, L3, L4, rfl, hT⟩
      clear Hsp
      obtain ⟨V, hVe⟩ : ∃ V, V = ((u.alloc (.cells #[.slice A0 n0 c0] 24)).alloc (.cells #[.slice A3 n3 c3] 24)).alloc (.cells #[.slice A4 n4 c4] 24) := ⟨_, rfl⟩
      have pV : Pu u V := by rw [hVe]; exact (((Pu.refl u).alloc _).alloc _).alloc _
      have hbx : BoxIs u w3 V u.heap.size (partM k 0 (l.drop 0)) ∧ BoxIs u w3 V (u.heap.size + 1) (partM k 1 (l.drop 0)) ∧ BoxIs u w3 V (u.heap.size + 1 + 1) (partM k 2 (l.drop 0)) := by
        rw [List.drop_zero]
        refine ⟨⟨A0, n0, c0, L0, ?_, Sl.of_own hT.o0.own, hT.o0.hold, (own_le hT.o0.own).2⟩, ⟨A3, n3, c3, L3, ?_, Sl.of_own hT.o1.own, hT.o1.hold, (own_le hT.o1.own).2⟩, ⟨A4, n4, c4, L4, ?_, Sl.of_own hT.o2.own, hT.o2.hold, (own_le hT.o2.own).2⟩⟩
        · rw [hVe]
          exact ((Blk.new u _ _).alloc _).alloc _
        · rw [hVe]
          exact (Blk.at_new _ _ _ (by simp)).alloc _
        · rw [hVe]
          exact Blk.at_new _ _ _ (by simp)
      have pU : Pu w3 u := hT.pu
      have Hbx := Lib.hid hbx
      have hsV : V.heap.size = u.heap.size + 3 := by rw [hVe]; simp
      have HsV := Lib.hid hsV
      have HVe := Lib.hid hVe
      have hsu : u.heap.size + 3 ≤ V.heap.size := by omega
      clear hVe hbx hT hsV
      go_wp2_with fail
      rw [← HVe.out]
      go_loopw [44] (fun iv wr => ∃ i : Nat, i ≤ n1 ∧ iv = .int .i64 (i : Int) ∧ BoxIs u w3 wr u.heap.size (partM k 0 (l.drop i)) ∧ BoxIs u w3 wr (u.heap.size + 1) (partM k 1 (l.drop i)) ∧ BoxIs u w3 wr (u.heap.size + 1 + 1) (partM k 2 (l.drop i)) ∧ Pu u wr ∧ u.heap.size + 3 ≤ wr.heap.size) (fun iv _ => n1 - (intOf iv).toNat)
      case atStart => exact ⟨0, Nat.zero_le _, rfl, Hbx.out.1, Hbx.out.2.1, Hbx.out.2.2, pV, hsu⟩
      case round =>
        obtain ⟨i, hi, rfl, hb0, hb1, hb2, hP, hsz⟩ := hrel
        clear hsu pV
        by_cases hlt : i < n1
        · obtain ⟨q, hq⟩ : ∃ q, L[i]? = some q := ⟨_, List.getElem?_eq_getElem (by rw [HL.out.1]; exact hlt)⟩
          obtain ⟨r, hr, hri⟩ := hH.at_ hq
          obtain ⟨b, off, rfl, hbl, x0, x1, x2, x3⟩ := SlR.at_ (Sl.pu hS3 (pU.trans hP)) hq
          obtain ⟨X, hXe⟩ : ∃ X, X = wr.alloc (.cells #[.bool q.g, .slice q.A q.n q.c, .pointer q.m, .bool q.eq] 35) := ⟨_, rfl⟩
          have pX : Pu wr X := by rw [hXe]; exact (Pu.refl wr).alloc _
          have kR : Blk X wr.heap.size 35 #[.bool q.g, .slice q.A q.n q.c, .pointer q.m, .bool q.eq] := by rw [hXe]; exact Blk.new _ _ _
          have hriX := hri.pu (pU.trans (hP.trans pX))
          have hfac := tfactor_any q.term r.rest k r.fs X hriX.2
          rw [hXe] at hfac
          have Hfac := Lib.hid hfac
          have hfb := Hfb.out r (List.mem_of_getElem? hr)
          have hsml := ((HL.out.2.2 r (List.mem_of_getElem? hr)).1).sml kk_big
          have Hsml := Lib.hid hsml
          have heq : q.eq = r.eq := hri.1
          have hnx := fun s => partM_cons (k := k) (s := s) hr
          have Hnx := Lib.hid hnx
          have hwi : IntKind.i64.wrap ((i : Int) + 1) = (i : Int) + 1 := IntWalk.i64_in _ (by omega)
          have Hri := Lib.hid hri
          have HXe := Lib.hid hXe
          obtain ⟨s, hs, hcase⟩ : ∃ s : Int, (factor r.fs k).sign = s ∧ ((s = -1 ∧ factor r.fs k < 0) ∨ (s = 0 ∧ factor r.fs k = 0) ∨ (s = 1 ∧ 0 < factor r.fs k)) := by
            rcases Int.lt_trichotomy (factor r.fs k) 0 with c | c | c
            · exact ⟨-1, Int.sign_eq_neg_one_of_neg c, .inl ⟨rfl, c⟩⟩
            · exact ⟨0, by rw [c]; rfl, .inr (.inl ⟨rfl, c⟩)⟩
            · exact ⟨1, Int.sign_eq_one_of_pos c, .inr (.inr ⟨rfl, c⟩)⟩
          have hsg := fun V v (hv : ZR V v (factor r.fs k)) => sign_any v (factor r.fs k) V hv hfb
          rw [hs] at hsg
          have Hsg := Lib.hid hsg
          clear hfac hsml hnx hXe hq hsg hr hri hriX
          obtain ⟨qg, qA, qn, qc, qm, qe⟩ := q
          dsimp only at x0 x1 x2 x3 Hfac heq kR Hri HXe
          have hside : (qe = true ∧ sideM k r = 2) ∨ (qe = false ∧ s = 0 ∧ sideM k r = 2) ∨ (qe = false ∧ s = -1 ∧ sideM k r = 0) ∨ (qe = false ∧ s = 1 ∧ sideM k r = 1) := by
            unfold sideM
            rw [← heq]
            cases qe with
            | true => exact .inl ⟨rfl, by rw [if_pos (.inl rfl)]⟩
            | false =>
              rcases hcase with ⟨h1, h2⟩ | ⟨h1, h2⟩ | ⟨h1, h2⟩
              · exact .inr (.inr (.inl ⟨rfl, h1, by rw [if_neg (fun x => x.elim (fun x => by cases x) (fun x => by omega)), if_pos h2]⟩))
              · exact .inr (.inl ⟨rfl, h1, by rw [if_pos (.inr h2)]⟩)
              · exact .inr (.inr (.inr ⟨rfl, h1, by rw [if_neg (fun x => x.elim (fun x => by cases x) (fun x => by omega)), if_neg (by omega)]⟩))
          clear hs hcase hfb heq
          rcases hside with ⟨rfl, hsd⟩ | ⟨rfl, rfl, hsd⟩ | ⟨rfl, rfl, hsd⟩ | ⟨rfl, rfl, hsd⟩
          all_goals
            have hN0 := Hnx.out 0
            have hN1 := Hnx.out 1
            have hN2 := Hnx.out 2
            rw [hsd] at hN0 hN1 hN2
            rw [hN0] at hb0
            rw [hN1] at hb1
            rw [hN2] at hb2
            clear hN0 hN1 hN2 hsd Hnx
            go_wp2_with fail
            refine Hfac.out.mono ?_
            rintro e w4 ⟨v, rfl, hv, p4⟩
            rw [← HXe.out] at p4
            go_wp2_with fail
            refine (Hsg.out _ _ hv).mono ?_
            rintro e w5 ⟨rfl, p5⟩
            have p45 := p4.trans p5
            have kR5 := kR.pu p45
            have pF := pX.trans p45
            have c3 := kR5.cell 3
            have hsz5 := pF.size
            clear hv p4 p5 p45 kR pX Hfac Hsg
          · have hbx : BoxIs u w3 w5 (u.heap.size + 1 + 1) ([r] ++ partM k 2 (l.drop (i + 1))) := by
                have := hb2.pu pF
                simpa using this
            have hy0 : BoxIs u w3 w5 (u.heap.size) (partM k 0 (l.drop (i + 1))) := by
                have := hb0.pu pF
                simpa using this
            have hy1 : BoxIs u w3 w5 (u.heap.size + 1) (partM k 1 (l.drop (i + 1))) := by
                have := hb1.pu pF
                simpa using this
            obtain ⟨B, m, d, M, kX, hsX, hhX, hdm⟩ := hbx
            obtain ⟨q', M', rfl, hq', hM'⟩ := hhX.cons
            have hml := hsX.len
            rw [List.length_cons] at hml
            have hmd := hsX.2.1
            obtain ⟨bb, oo, rfl, hbbl, -⟩ := hsX.2.2 (by omega)
            have hne : ((m : Int) == 0) = false := by simp; omega
            have hd1 : (1 : Int) ≤ (d : Int) := by omega
            have hm1 : (1 : Int) ≤ (m : Int) := by omega
            have hmdI : (m : Int) ≤ (d : Int) := by omega
            have hM1 := SlR.take1 hsX
            have hMt := SlR.tail hsX
            have pG := hP.trans pF
            have hsame : ∀ V qb, Pu w5 V → Blk V qb 35 #[.bool qg, .slice qA qn qc, .pointer qm, .bool true] → Calls Tryz.prog 11 #[.slice (some ⟨bb, oo, none⟩) 1 d, .slice (some ⟨qb, 0, none⟩) 1 1] V fun e w' => e = .returned (.bool true) ∧ Pu V w' := fun V qb pV hB => by
                have := same_any (some ⟨bb, oo, none⟩) (some ⟨qb, 0, none⟩) 1 d 1 1 [q'] [⟨qg, qA, qn, qc, qm, true⟩] [r] [r] V (hM1.pu (pG.trans pV)) (Sl.of_blk hB 4 1 1 rfl (by decide)) (HoldR.one (hq'.pu (pU.trans (pG.trans pV)))) (HoldR.one (Hri.out.pu (pU.trans (pG.trans pV)))) (fun x hx => by rw [List.mem_singleton.1 hx]; exact Hsml.out) (fun x hx => by rw [List.mem_singleton.1 hx]; exact Hsml.out) (by decide)
                rw [decide_eq_true (rfl : [r].map lookR = [r].map lookR)] at this
                exact this
            have Hsame := Lib.hid hsame
            have HM := Lib.hid (And.intro hMt (And.intro hM' (And.intro hml (And.intro hmd hdm))))
            clear hsame hM1 hMt hsX hhX hq' hM' hml hmd hdm hb0 hb1 hb2
            go_wp2_with fail
            have pd : Pu w5 w5.drew := (Pu.refl w5).drew
            refine wp_region_stableA3 12 (fun _ w => Pu w5 w) (fun _ => Pu) (fun io => match io with | 0 => fun vv_ _ => vv_ = .pointer (some ⟨u.heap.size + 1 + 1, 0, none⟩) | 1 => fun vv_ _ => vv_ = .pointer (some ⟨u.heap.size + 1 + 1, 0, none⟩) | 2 => fun vv_ _ => vv_ = .slice (some ⟨bb, oo, none⟩) m d | 3 => fun vv_ _ => vv_ = .int .i64 (m : Int) | 4 => fun vv_ _ => vv_ = .bool false | 5 => fun vv_ _ => vv_ = .bool false | 6 => fun vv_ _ => vv_ = .pointer (some ⟨u.heap.size + 1 + 1, 0, none⟩) | 7 => fun vv_ _ => vv_ = .pointer (some ⟨u.heap.size + 1 + 1, 0, none⟩) | 8 => fun vv_ _ => vv_ = .slice (some ⟨bb, oo, none⟩) m d | 9 => fun vv_ _ => vv_ = .slice (some ⟨bb, oo, none⟩) 1 d | 10 => fun vv_ _ => vv_ = .agg #[.bool qg, .slice qA qn qc, .pointer qm, .bool true] | 11 => fun v w => ∃ qb, v = .slice (some ⟨qb, 0, none⟩) 1 1 ∧ Blk w qb 35 #[.bool qg, .slice qA qn qc, .pointer qm, .bool true] | _ => fun _ _ => True) [some 69, some 70, some 71, some 72, some 73, some 74, some 75, some 76, some 77, some 78, some 79, some 80] (by kernel_rfl) (by kernel_rfl) rfl pd ?_ ?_ ?_ ?_
            · intro ko lst u u' hk hLk hI hR
              exact hI.trans hR
            · intro io ko v u u' hi hk hik h hR0
              have hR := hR0
              match io, hi, hik, h with
              | 0, _, _, h => exact h
              | 1, _, _, h => exact h
              | 2, _, _, h => exact h
              | 3, _, _, h => exact h
              | 4, _, _, h => exact h
              | 5, _, _, h => exact h
              | 6, _, _, h => exact h
              | 7, _, _, h => exact h
              | 8, _, _, h => exact h
              | 9, _, _, h => exact h
              | 10, _, _, h => exact h
              | 11, _, hik, h =>
                replace h : ∃ qb, v = .slice (some ⟨qb, 0, none⟩) 1 1 ∧ Blk u qb 35 #[.bool qg, .slice qA qn qc, .pointer qm, .bool true] := h
                obtain ⟨qb, e, h⟩ := h
                exact ⟨qb, e, h.pu hR⟩
              | _ + 12, hi, _, _ => exact absurd hi (by omega)
            · refine StepsS.cons [] rfl (by kernel_rfl) (fun y lst V hLk hV hp K hK => ?_) ?_
              · try dsimp only at hK
                simp only [putsL, upd, Act.put, List.setIfInBounds_toArray, List.set_cons_zero, List.set_cons_succ, Nat.reduceEqDiff, Nat.succ_ne_zero, Nat.reduceAdd, zero_ne_one_, one_ne_zero_, reduceIte] at hK ⊢
                clear hp
                try dsimp only at hV
                go_simp
                exact hK.out _ _ (Pu.refl _) rfl
              refine StepsS.cons [0] rfl (by kernel_rfl) (fun y lst V hLk hV hp K hK => ?_) ?_
              · try dsimp only at hK
                simp only [putsL, upd, Act.put, List.setIfInBounds_toArray, List.set_cons_zero, List.set_cons_succ, Nat.reduceEqDiff, Nat.succ_ne_zero, Nat.reduceAdd, zero_ne_one_, one_ne_zero_, reduceIte] at hK ⊢
                have e0 := hp 0 (by simp)
                clear hp
                try dsimp only at hV e0
                generalize y 0 = z0 at hK e0 ⊢
                subst e0
                go_simp
                exact hK.out _ _ (Pu.refl _) rfl
              refine StepsS.cons [1] rfl (by kernel_rfl) (fun y lst V hLk hV hp K hK => ?_) ?_
              · try dsimp only at hK
                simp only [putsL, upd, Act.put, List.setIfInBounds_toArray, List.set_cons_zero, List.set_cons_succ, Nat.reduceEqDiff, Nat.succ_ne_zero, Nat.reduceAdd, zero_ne_one_, one_ne_zero_, reduceIte] at hK ⊢
                have e1 := hp 1 (by simp)
                clear hp
                try dsimp only at hV e1
                generalize y 1 = z1 at hK e1 ⊢
                subst e1
                have z0 := (kX.pu hV).cell 0
                go_simp
                exact hK.out _ _ (Pu.refl _) rfl
              refine StepsS.cons [2] rfl (by kernel_rfl) (fun y lst V hLk hV hp K hK => ?_) ?_
              · try dsimp only at hK
                simp only [putsL, upd, Act.put, List.setIfInBounds_toArray, List.set_cons_zero, List.set_cons_succ, Nat.reduceEqDiff, Nat.succ_ne_zero, Nat.reduceAdd, zero_ne_one_, one_ne_zero_, reduceIte] at hK ⊢
                have e2 := hp 2 (by simp)
                clear hp
                try dsimp only at hV e2
                generalize y 2 = z2 at hK e2 ⊢
                subst e2
                go_simp
                exact hK.out _ _ (Pu.refl _) rfl
              refine StepsS.cons [3] rfl (by kernel_rfl) (fun y lst V hLk hV hp K hK => ?_) ?_
              · try dsimp only at hK
                simp only [putsL, upd, Act.put, List.setIfInBounds_toArray, List.set_cons_zero, List.set_cons_succ, Nat.reduceEqDiff, Nat.succ_ne_zero, Nat.reduceAdd, zero_ne_one_, one_ne_zero_, reduceIte] at hK ⊢
                have e3 := hp 3 (by simp)
                clear hp
                try dsimp only at hV e3
                generalize y 3 = z3 at hK e3 ⊢
                subst e3
                go_simp
                exact hK.out _ _ (Pu.refl _) rfl
              refine StepsS.cons [4] rfl (by kernel_rfl) (fun y lst V hLk hV hp K hK => ?_) ?_
              · try dsimp only at hK
                simp only [putsL, upd, Act.put, List.setIfInBounds_toArray, List.set_cons_zero, List.set_cons_succ, Nat.reduceEqDiff, Nat.succ_ne_zero, Nat.reduceAdd, zero_ne_one_, one_ne_zero_, reduceIte] at hK ⊢
                have e4 := hp 4 (by simp)
                clear hp
                try dsimp only at hV e4
                generalize y 4 = z4 at hK e4 ⊢
                subst e4
                go_simp
                exact hK.out _ _ (Pu.refl _) rfl
              refine StepsS.cons [5] rfl (by kernel_rfl) (fun y lst V hLk hV hp K hK => ?_) ?_
              · try dsimp only at hK
                simp only [putsL, upd, Act.put, List.setIfInBounds_toArray, List.set_cons_zero, List.set_cons_succ, Nat.reduceEqDiff, Nat.succ_ne_zero, Nat.reduceAdd, zero_ne_one_, one_ne_zero_, reduceIte] at hK ⊢
                have e5 := hp 5 (by simp)
                clear hp
                try dsimp only at hV e5
                generalize y 5 = z5 at hK e5 ⊢
                subst e5
                go_simp
                exact hK.out _ _ (Pu.refl _) rfl
              refine StepsS.cons [5, 6] rfl (by kernel_rfl) (fun y lst V hLk hV hp K hK => ?_) ?_
              · try dsimp only at hK
                simp only [putsL, upd, Act.put, List.setIfInBounds_toArray, List.set_cons_zero, List.set_cons_succ, Nat.reduceEqDiff, Nat.succ_ne_zero, Nat.reduceAdd, zero_ne_one_, one_ne_zero_, reduceIte] at hK ⊢
                have e5 := hp 5 (by simp)
                have e6 := hp 6 (by simp)
                clear hp
                try dsimp only at hV e5 e6
                generalize y 5 = z5 at hK e5 ⊢
                generalize y 6 = z6 at hK e6 ⊢
                subst e5
                subst e6
                go_simp
                exact hK.out _ _ (Pu.refl _) rfl
              refine StepsS.cons [5, 7] rfl (by kernel_rfl) (fun y lst V hLk hV hp K hK => ?_) ?_
              · try dsimp only at hK
                simp only [putsL, upd, Act.put, List.setIfInBounds_toArray, List.set_cons_zero, List.set_cons_succ, Nat.reduceEqDiff, Nat.succ_ne_zero, Nat.reduceAdd, zero_ne_one_, one_ne_zero_, reduceIte] at hK ⊢
                have e5 := hp 5 (by simp)
                have e7 := hp 7 (by simp)
                clear hp
                try dsimp only at hV e5 e7
                generalize y 5 = z5 at hK e5 ⊢
                generalize y 7 = z7 at hK e7 ⊢
                subst e5
                subst e7
                have z0 := (kX.pu hV).cell 0
                go_simp
                exact hK.out _ _ (Pu.refl _) rfl
              refine StepsS.cons [5, 8] rfl (by kernel_rfl) (fun y lst V hLk hV hp K hK => ?_) ?_
              · try dsimp only at hK
                simp only [putsL, upd, Act.put, List.setIfInBounds_toArray, List.set_cons_zero, List.set_cons_succ, Nat.reduceEqDiff, Nat.succ_ne_zero, Nat.reduceAdd, zero_ne_one_, one_ne_zero_, reduceIte] at hK ⊢
                have e5 := hp 5 (by simp)
                have e8 := hp 8 (by simp)
                clear hp
                try dsimp only at hV e5 e8
                generalize y 5 = z5 at hK e5 ⊢
                generalize y 8 = z8 at hK e8 ⊢
                subst e5
                subst e8
                go_simp
                exact hK.out _ _ (Pu.refl _) rfl
              refine StepsS.cons [5] rfl (by kernel_rfl) (fun y lst V hLk hV hp K hK => ?_) ?_
              · try dsimp only at hK
                simp only [putsL, upd, Act.put, List.setIfInBounds_toArray, List.set_cons_zero, List.set_cons_succ, Nat.reduceEqDiff, Nat.succ_ne_zero, Nat.reduceAdd, zero_ne_one_, one_ne_zero_, reduceIte] at hK ⊢
                have e5 := hp 5 (by simp)
                clear hp
                try dsimp only at hV e5
                generalize y 5 = z5 at hK e5 ⊢
                subst e5
                have z0 := (kR5.pu hV).cell 0
                have z1 := (kR5.pu hV).cell 1
                have z2 := (kR5.pu hV).cell 2
                have z3 := (kR5.pu hV).cell 3
                go_simp
                exact hK.out _ _ (Pu.refl _) rfl
              refine StepsS.cons [5, 10] rfl (by kernel_rfl) (fun y lst V hLk hV hp K hK => ?_) ?_
              · try dsimp only at hK
                simp only [putsL, upd, Act.put, List.setIfInBounds_toArray, List.set_cons_zero, List.set_cons_succ, Nat.reduceEqDiff, Nat.succ_ne_zero, Nat.reduceAdd, zero_ne_one_, one_ne_zero_, reduceIte] at hK ⊢
                have e5 := hp 5 (by simp)
                have e10 := hp 10 (by simp)
                clear hp
                try dsimp only at hV e5 e10
                generalize y 5 = z5 at hK e5 ⊢
                generalize y 10 = z10 at hK e10 ⊢
                subst e5
                subst e10
                go_simp
                exact hK.out _ _ ((Pu.refl _).alloc _) ⟨_, rfl, Blk.new _ _ _⟩
              exact StepsS.nil
            · intro y V lst hL hV hp
              have f0 := hp 0 (by decide)
              have f1 := hp 1 (by decide)
              have f2 := hp 2 (by decide)
              have f3 := hp 3 (by decide)
              have f4 := hp 4 (by decide)
              have f5 := hp 5 (by decide)
              have f6 := hp 6 (by decide)
              have f7 := hp 7 (by decide)
              have f8 := hp 8 (by decide)
              have f9 := hp 9 (by decide)
              have f10 := hp 10 (by decide)
              have f11 := hp 11 (by decide)
              clear hp
              try dsimp only at hV f0 f1 f2 f3 f4 f5 f6 f7 f8 f9 f10 f11
              simp only [putsL, upd, Act.put, List.setIfInBounds_toArray, List.set_cons_zero, List.set_cons_succ, Nat.reduceEqDiff, Nat.succ_ne_zero, Nat.reduceAdd, zero_ne_one_, one_ne_zero_, reduceIte]
              generalize y 0 = z0 at f0 ⊢
              generalize y 1 = z1 at f1 ⊢
              generalize y 2 = z2 at f2 ⊢
              generalize y 3 = z3 at f3 ⊢
              generalize y 4 = z4 at f4 ⊢
              generalize y 5 = z5 at f5 ⊢
              generalize y 6 = z6 at f6 ⊢
              generalize y 7 = z7 at f7 ⊢
              generalize y 8 = z8 at f8 ⊢
              generalize y 9 = z9 at f9 ⊢
              generalize y 10 = z10 at f10 ⊢
              generalize y 11 = z11 at f11 ⊢
              subst f0
              subst f1
              subst f2
              subst f3
              subst f4
              subst f5
              subst f6
              subst f7
              subst f8
              subst f9
              subst f10
              obtain ⟨qb, rfl, hB⟩ := f11
              go_wp2_with fail
              refine (Hsame.out _ _ hV hB).mono ?_
              rintro e w6 ⟨rfl, p6⟩
              have p56 := hV.trans p6
              have kX6 := kX.pu p56
              have z0 := kX6.cell 0
              have fz0 := kX6.frozen 0
              have hP6 := pG.trans p56
              have hs6 := hP6.size
              have hs56 := p56.size
              have hw0 := hy0.pu p56
              have hw1 := hy1.pu p56
              clear hB p6 pd
              by_cases hdd : d = 1
              · subst hdd
                have hme : m = 1 := by have := HM.out.2.2.2.1; omega
                subst hme
                obtain ⟨kY, eY⟩ := over_1 kX6 (.slice (some ⟨bb, oo, none⟩) 0 0)
                have hPY := hP6.step eY (fun j hj => by
                    have e' : j = u.heap.size + 1 + 1 := hj
                    omega)
                have hv0 := hw0.fr eY (by omega)
                have hv1 := hw1.fr eY (by omega)
                have HFk := Lib.hid (And.intro kY (And.intro hPY (And.intro hv0 hv1)))
                have hsY := eY.size
                clear kY eY hPY hv0 hv1 hw0 hw1 kX6
                go_wp2
                go_roundw
                case rel => exact ⟨i + 1, by omega, by go_num, HFk.out.2.2.1, HFk.out.2.2.2, by
                    have h1 := HM.out.2.2.1
                    have h2 := HM.out.2.2.2.1
                    have h3 : M'.length = 0 := by omega
                    exact ⟨some ⟨bb, oo, none⟩, 0, 0, M', HFk.out.1, by rw [List.length_eq_zero_iff.1 h3]; exact Sl.nil _ _ _ _, HM.out.2.1, Nat.zero_le _⟩, HFk.out.2.1, by omega⟩
                case measure => simp [intOf]; omega
              · skip
                obtain ⟨kY, eY⟩ := over_1 kX6 (.slice (some ⟨bb, oo + 4, none⟩) (m - 1) (d - 1))
                have hPY := hP6.step eY (fun j hj => by
                    have e' : j = u.heap.size + 1 + 1 := hj
                    omega)
                have hv0 := hw0.fr eY (by omega)
                have hv1 := hw1.fr eY (by omega)
                have HFk := Lib.hid (And.intro kY (And.intro hPY (And.intro hv0 hv1)))
                have hsY := eY.size
                clear kY eY hPY hv0 hv1 hw0 hw1 kX6
                go_wp2
                go_roundw
                case rel => exact ⟨i + 1, by omega, by go_num, HFk.out.2.2.1, HFk.out.2.2.2, ⟨some ⟨bb, oo + 4, none⟩, m - 1, d - 1, M', HFk.out.1, HM.out.1, HM.out.2.1, by have := HM.out.2.2.2.2; omega⟩, HFk.out.2.1, by omega⟩
                case measure => simp [intOf]; omega
          · have hbx : BoxIs u w3 w5 (u.heap.size + 1 + 1) ([r] ++ partM k 2 (l.drop (i + 1))) := by
                have := hb2.pu pF
                simpa using this
            have hy0 : BoxIs u w3 w5 (u.heap.size) (partM k 0 (l.drop (i + 1))) := by
                have := hb0.pu pF
                simpa using this
            have hy1 : BoxIs u w3 w5 (u.heap.size + 1) (partM k 1 (l.drop (i + 1))) := by
                have := hb1.pu pF
                simpa using this
            obtain ⟨B, m, d, M, kX, hsX, hhX, hdm⟩ := hbx
            obtain ⟨q', M', rfl, hq', hM'⟩ := hhX.cons
            have hml := hsX.len
            rw [List.length_cons] at hml
            have hmd := hsX.2.1
            obtain ⟨bb, oo, rfl, hbbl, -⟩ := hsX.2.2 (by omega)
            have hne : ((m : Int) == 0) = false := by simp; omega
            have hd1 : (1 : Int) ≤ (d : Int) := by omega
            have hm1 : (1 : Int) ≤ (m : Int) := by omega
            have hmdI : (m : Int) ≤ (d : Int) := by omega
            have hM1 := SlR.take1 hsX
            have hMt := SlR.tail hsX
            have pG := hP.trans pF
            have hsame : ∀ V qb, Pu w5 V → Blk V qb 35 #[.bool qg, .slice qA qn qc, .pointer qm, .bool false] → Calls Tryz.prog 11 #[.slice (some ⟨bb, oo, none⟩) 1 d, .slice (some ⟨qb, 0, none⟩) 1 1] V fun e w' => e = .returned (.bool true) ∧ Pu V w' := fun V qb pV hB => by
                have := same_any (some ⟨bb, oo, none⟩) (some ⟨qb, 0, none⟩) 1 d 1 1 [q'] [⟨qg, qA, qn, qc, qm, false⟩] [r] [r] V (hM1.pu (pG.trans pV)) (Sl.of_blk hB 4 1 1 rfl (by decide)) (HoldR.one (hq'.pu (pU.trans (pG.trans pV)))) (HoldR.one (Hri.out.pu (pU.trans (pG.trans pV)))) (fun x hx => by rw [List.mem_singleton.1 hx]; exact Hsml.out) (fun x hx => by rw [List.mem_singleton.1 hx]; exact Hsml.out) (by decide)
                rw [decide_eq_true (rfl : [r].map lookR = [r].map lookR)] at this
                exact this
            have Hsame := Lib.hid hsame
            have HM := Lib.hid (And.intro hMt (And.intro hM' (And.intro hml (And.intro hmd hdm))))
            clear hsame hM1 hMt hsX hhX hq' hM' hml hmd hdm hb0 hb1 hb2
            go_wp2_with fail
            have pd : Pu w5 w5.drew := (Pu.refl w5).drew
            refine wp_region_stableA3 12 (fun _ w => Pu w5 w) (fun _ => Pu) (fun io => match io with | 0 => fun vv_ _ => vv_ = .pointer (some ⟨u.heap.size + 1 + 1, 0, none⟩) | 1 => fun vv_ _ => vv_ = .pointer (some ⟨u.heap.size + 1 + 1, 0, none⟩) | 2 => fun vv_ _ => vv_ = .slice (some ⟨bb, oo, none⟩) m d | 3 => fun vv_ _ => vv_ = .int .i64 (m : Int) | 4 => fun vv_ _ => vv_ = .bool false | 5 => fun vv_ _ => vv_ = .bool false | 6 => fun vv_ _ => vv_ = .pointer (some ⟨u.heap.size + 1 + 1, 0, none⟩) | 7 => fun vv_ _ => vv_ = .pointer (some ⟨u.heap.size + 1 + 1, 0, none⟩) | 8 => fun vv_ _ => vv_ = .slice (some ⟨bb, oo, none⟩) m d | 9 => fun vv_ _ => vv_ = .slice (some ⟨bb, oo, none⟩) 1 d | 10 => fun vv_ _ => vv_ = .agg #[.bool qg, .slice qA qn qc, .pointer qm, .bool false] | 11 => fun v w => ∃ qb, v = .slice (some ⟨qb, 0, none⟩) 1 1 ∧ Blk w qb 35 #[.bool qg, .slice qA qn qc, .pointer qm, .bool false] | _ => fun _ _ => True) [some 69, some 70, some 71, some 72, some 73, some 74, some 75, some 76, some 77, some 78, some 79, some 80] (by kernel_rfl) (by kernel_rfl) rfl pd ?_ ?_ ?_ ?_
            · intro ko lst u u' hk hLk hI hR
              exact hI.trans hR
            · intro io ko v u u' hi hk hik h hR0
              have hR := hR0
              match io, hi, hik, h with
              | 0, _, _, h => exact h
              | 1, _, _, h => exact h
              | 2, _, _, h => exact h
              | 3, _, _, h => exact h
              | 4, _, _, h => exact h
              | 5, _, _, h => exact h
              | 6, _, _, h => exact h
              | 7, _, _, h => exact h
              | 8, _, _, h => exact h
              | 9, _, _, h => exact h
              | 10, _, _, h => exact h
              | 11, _, hik, h =>
                replace h : ∃ qb, v = .slice (some ⟨qb, 0, none⟩) 1 1 ∧ Blk u qb 35 #[.bool qg, .slice qA qn qc, .pointer qm, .bool false] := h
                obtain ⟨qb, e, h⟩ := h
                exact ⟨qb, e, h.pu hR⟩
              | _ + 12, hi, _, _ => exact absurd hi (by omega)
            · refine StepsS.cons [] rfl (by kernel_rfl) (fun y lst V hLk hV hp K hK => ?_) ?_
              · try dsimp only at hK
                simp only [putsL, upd, Act.put, List.setIfInBounds_toArray, List.set_cons_zero, List.set_cons_succ, Nat.reduceEqDiff, Nat.succ_ne_zero, Nat.reduceAdd, zero_ne_one_, one_ne_zero_, reduceIte] at hK ⊢
                clear hp
                try dsimp only at hV
                go_simp
                exact hK.out _ _ (Pu.refl _) rfl
              refine StepsS.cons [0] rfl (by kernel_rfl) (fun y lst V hLk hV hp K hK => ?_) ?_
              · try dsimp only at hK
                simp only [putsL, upd, Act.put, List.setIfInBounds_toArray, List.set_cons_zero, List.set_cons_succ, Nat.reduceEqDiff, Nat.succ_ne_zero, Nat.reduceAdd, zero_ne_one_, one_ne_zero_, reduceIte] at hK ⊢
                have e0 := hp 0 (by simp)
                clear hp
                try dsimp only at hV e0
                generalize y 0 = z0 at hK e0 ⊢
                subst e0
                go_simp
                exact hK.out _ _ (Pu.refl _) rfl
              refine StepsS.cons [1] rfl (by kernel_rfl) (fun y lst V hLk hV hp K hK => ?_) ?_
              · try dsimp only at hK
                simp only [putsL, upd, Act.put, List.setIfInBounds_toArray, List.set_cons_zero, List.set_cons_succ, Nat.reduceEqDiff, Nat.succ_ne_zero, Nat.reduceAdd, zero_ne_one_, one_ne_zero_, reduceIte] at hK ⊢
                have e1 := hp 1 (by simp)
                clear hp
                try dsimp only at hV e1
                generalize y 1 = z1 at hK e1 ⊢
                subst e1
                have z0 := (kX.pu hV).cell 0
                go_simp
                exact hK.out _ _ (Pu.refl _) rfl
              refine StepsS.cons [2] rfl (by kernel_rfl) (fun y lst V hLk hV hp K hK => ?_) ?_
              · try dsimp only at hK
                simp only [putsL, upd, Act.put, List.setIfInBounds_toArray, List.set_cons_zero, List.set_cons_succ, Nat.reduceEqDiff, Nat.succ_ne_zero, Nat.reduceAdd, zero_ne_one_, one_ne_zero_, reduceIte] at hK ⊢
                have e2 := hp 2 (by simp)
                clear hp
                try dsimp only at hV e2
                generalize y 2 = z2 at hK e2 ⊢
                subst e2
                go_simp
                exact hK.out _ _ (Pu.refl _) rfl
              refine StepsS.cons [3] rfl (by kernel_rfl) (fun y lst V hLk hV hp K hK => ?_) ?_
              · try dsimp only at hK
                simp only [putsL, upd, Act.put, List.setIfInBounds_toArray, List.set_cons_zero, List.set_cons_succ, Nat.reduceEqDiff, Nat.succ_ne_zero, Nat.reduceAdd, zero_ne_one_, one_ne_zero_, reduceIte] at hK ⊢
                have e3 := hp 3 (by simp)
                clear hp
                try dsimp only at hV e3
                generalize y 3 = z3 at hK e3 ⊢
                subst e3
                go_simp
                exact hK.out _ _ (Pu.refl _) rfl
              refine StepsS.cons [4] rfl (by kernel_rfl) (fun y lst V hLk hV hp K hK => ?_) ?_
              · try dsimp only at hK
                simp only [putsL, upd, Act.put, List.setIfInBounds_toArray, List.set_cons_zero, List.set_cons_succ, Nat.reduceEqDiff, Nat.succ_ne_zero, Nat.reduceAdd, zero_ne_one_, one_ne_zero_, reduceIte] at hK ⊢
                have e4 := hp 4 (by simp)
                clear hp
                try dsimp only at hV e4
                generalize y 4 = z4 at hK e4 ⊢
                subst e4
                go_simp
                exact hK.out _ _ (Pu.refl _) rfl
              refine StepsS.cons [5] rfl (by kernel_rfl) (fun y lst V hLk hV hp K hK => ?_) ?_
              · try dsimp only at hK
                simp only [putsL, upd, Act.put, List.setIfInBounds_toArray, List.set_cons_zero, List.set_cons_succ, Nat.reduceEqDiff, Nat.succ_ne_zero, Nat.reduceAdd, zero_ne_one_, one_ne_zero_, reduceIte] at hK ⊢
                have e5 := hp 5 (by simp)
                clear hp
                try dsimp only at hV e5
                generalize y 5 = z5 at hK e5 ⊢
                subst e5
                go_simp
                exact hK.out _ _ (Pu.refl _) rfl
              refine StepsS.cons [5, 6] rfl (by kernel_rfl) (fun y lst V hLk hV hp K hK => ?_) ?_
              · try dsimp only at hK
                simp only [putsL, upd, Act.put, List.setIfInBounds_toArray, List.set_cons_zero, List.set_cons_succ, Nat.reduceEqDiff, Nat.succ_ne_zero, Nat.reduceAdd, zero_ne_one_, one_ne_zero_, reduceIte] at hK ⊢
                have e5 := hp 5 (by simp)
                have e6 := hp 6 (by simp)
                clear hp
                try dsimp only at hV e5 e6
                generalize y 5 = z5 at hK e5 ⊢
                generalize y 6 = z6 at hK e6 ⊢
                subst e5
                subst e6
                go_simp
                exact hK.out _ _ (Pu.refl _) rfl
              refine StepsS.cons [5, 7] rfl (by kernel_rfl) (fun y lst V hLk hV hp K hK => ?_) ?_
              · try dsimp only at hK
                simp only [putsL, upd, Act.put, List.setIfInBounds_toArray, List.set_cons_zero, List.set_cons_succ, Nat.reduceEqDiff, Nat.succ_ne_zero, Nat.reduceAdd, zero_ne_one_, one_ne_zero_, reduceIte] at hK ⊢
                have e5 := hp 5 (by simp)
                have e7 := hp 7 (by simp)
                clear hp
                try dsimp only at hV e5 e7
                generalize y 5 = z5 at hK e5 ⊢
                generalize y 7 = z7 at hK e7 ⊢
                subst e5
                subst e7
                have z0 := (kX.pu hV).cell 0
                go_simp
                exact hK.out _ _ (Pu.refl _) rfl
              refine StepsS.cons [5, 8] rfl (by kernel_rfl) (fun y lst V hLk hV hp K hK => ?_) ?_
              · try dsimp only at hK
                simp only [putsL, upd, Act.put, List.setIfInBounds_toArray, List.set_cons_zero, List.set_cons_succ, Nat.reduceEqDiff, Nat.succ_ne_zero, Nat.reduceAdd, zero_ne_one_, one_ne_zero_, reduceIte] at hK ⊢
                have e5 := hp 5 (by simp)
                have e8 := hp 8 (by simp)
                clear hp
                try dsimp only at hV e5 e8
                generalize y 5 = z5 at hK e5 ⊢
                generalize y 8 = z8 at hK e8 ⊢
                subst e5
                subst e8
                go_simp
                exact hK.out _ _ (Pu.refl _) rfl
              refine StepsS.cons [5] rfl (by kernel_rfl) (fun y lst V hLk hV hp K hK => ?_) ?_
              · try dsimp only at hK
                simp only [putsL, upd, Act.put, List.setIfInBounds_toArray, List.set_cons_zero, List.set_cons_succ, Nat.reduceEqDiff, Nat.succ_ne_zero, Nat.reduceAdd, zero_ne_one_, one_ne_zero_, reduceIte] at hK ⊢
                have e5 := hp 5 (by simp)
                clear hp
                try dsimp only at hV e5
                generalize y 5 = z5 at hK e5 ⊢
                subst e5
                have z0 := (kR5.pu hV).cell 0
                have z1 := (kR5.pu hV).cell 1
                have z2 := (kR5.pu hV).cell 2
                have z3 := (kR5.pu hV).cell 3
                go_simp
                exact hK.out _ _ (Pu.refl _) rfl
              refine StepsS.cons [5, 10] rfl (by kernel_rfl) (fun y lst V hLk hV hp K hK => ?_) ?_
              · try dsimp only at hK
                simp only [putsL, upd, Act.put, List.setIfInBounds_toArray, List.set_cons_zero, List.set_cons_succ, Nat.reduceEqDiff, Nat.succ_ne_zero, Nat.reduceAdd, zero_ne_one_, one_ne_zero_, reduceIte] at hK ⊢
                have e5 := hp 5 (by simp)
                have e10 := hp 10 (by simp)
                clear hp
                try dsimp only at hV e5 e10
                generalize y 5 = z5 at hK e5 ⊢
                generalize y 10 = z10 at hK e10 ⊢
                subst e5
                subst e10
                go_simp
                exact hK.out _ _ ((Pu.refl _).alloc _) ⟨_, rfl, Blk.new _ _ _⟩
              exact StepsS.nil
            · intro y V lst hL hV hp
              have f0 := hp 0 (by decide)
              have f1 := hp 1 (by decide)
              have f2 := hp 2 (by decide)
              have f3 := hp 3 (by decide)
              have f4 := hp 4 (by decide)
              have f5 := hp 5 (by decide)
              have f6 := hp 6 (by decide)
              have f7 := hp 7 (by decide)
              have f8 := hp 8 (by decide)
              have f9 := hp 9 (by decide)
              have f10 := hp 10 (by decide)
              have f11 := hp 11 (by decide)
              clear hp
              try dsimp only at hV f0 f1 f2 f3 f4 f5 f6 f7 f8 f9 f10 f11
              simp only [putsL, upd, Act.put, List.setIfInBounds_toArray, List.set_cons_zero, List.set_cons_succ, Nat.reduceEqDiff, Nat.succ_ne_zero, Nat.reduceAdd, zero_ne_one_, one_ne_zero_, reduceIte]
              generalize y 0 = z0 at f0 ⊢
              generalize y 1 = z1 at f1 ⊢
              generalize y 2 = z2 at f2 ⊢
              generalize y 3 = z3 at f3 ⊢
              generalize y 4 = z4 at f4 ⊢
              generalize y 5 = z5 at f5 ⊢
              generalize y 6 = z6 at f6 ⊢
              generalize y 7 = z7 at f7 ⊢
              generalize y 8 = z8 at f8 ⊢
              generalize y 9 = z9 at f9 ⊢
              generalize y 10 = z10 at f10 ⊢
              generalize y 11 = z11 at f11 ⊢
              subst f0
              subst f1
              subst f2
              subst f3
              subst f4
              subst f5
              subst f6
              subst f7
              subst f8
              subst f9
              subst f10
              obtain ⟨qb, rfl, hB⟩ := f11
              go_wp2_with fail
              refine (Hsame.out _ _ hV hB).mono ?_
              rintro e w6 ⟨rfl, p6⟩
              have p56 := hV.trans p6
              have kX6 := kX.pu p56
              have z0 := kX6.cell 0
              have fz0 := kX6.frozen 0
              have hP6 := pG.trans p56
              have hs6 := hP6.size
              have hs56 := p56.size
              have hw0 := hy0.pu p56
              have hw1 := hy1.pu p56
              clear hB p6 pd
              by_cases hdd : d = 1
              · subst hdd
                have hme : m = 1 := by have := HM.out.2.2.2.1; omega
                subst hme
                obtain ⟨kY, eY⟩ := over_1 kX6 (.slice (some ⟨bb, oo, none⟩) 0 0)
                have hPY := hP6.step eY (fun j hj => by
                    have e' : j = u.heap.size + 1 + 1 := hj
                    omega)
                have hv0 := hw0.fr eY (by omega)
                have hv1 := hw1.fr eY (by omega)
                have HFk := Lib.hid (And.intro kY (And.intro hPY (And.intro hv0 hv1)))
                have hsY := eY.size
                clear kY eY hPY hv0 hv1 hw0 hw1 kX6
                go_wp2
                go_roundw
                case rel => exact ⟨i + 1, by omega, by go_num, HFk.out.2.2.1, HFk.out.2.2.2, by
                    have h1 := HM.out.2.2.1
                    have h2 := HM.out.2.2.2.1
                    have h3 : M'.length = 0 := by omega
                    exact ⟨some ⟨bb, oo, none⟩, 0, 0, M', HFk.out.1, by rw [List.length_eq_zero_iff.1 h3]; exact Sl.nil _ _ _ _, HM.out.2.1, Nat.zero_le _⟩, HFk.out.2.1, by omega⟩
                case measure => simp [intOf]; omega
              · skip
                obtain ⟨kY, eY⟩ := over_1 kX6 (.slice (some ⟨bb, oo + 4, none⟩) (m - 1) (d - 1))
                have hPY := hP6.step eY (fun j hj => by
                    have e' : j = u.heap.size + 1 + 1 := hj
                    omega)
                have hv0 := hw0.fr eY (by omega)
                have hv1 := hw1.fr eY (by omega)
                have HFk := Lib.hid (And.intro kY (And.intro hPY (And.intro hv0 hv1)))
                have hsY := eY.size
                clear kY eY hPY hv0 hv1 hw0 hw1 kX6
                go_wp2
                go_roundw
                case rel => exact ⟨i + 1, by omega, by go_num, HFk.out.2.2.1, HFk.out.2.2.2, ⟨some ⟨bb, oo + 4, none⟩, m - 1, d - 1, M', HFk.out.1, HM.out.1, HM.out.2.1, by have := HM.out.2.2.2.2; omega⟩, HFk.out.2.1, by omega⟩
                case measure => simp [intOf]; omega
          · have hbx : BoxIs u w3 w5 (u.heap.size) ([r] ++ partM k 0 (l.drop (i + 1))) := by
                have := hb0.pu pF
                simpa using this
            have hy1 : BoxIs u w3 w5 (u.heap.size + 1) (partM k 1 (l.drop (i + 1))) := by
                have := hb1.pu pF
                simpa using this
            have hy2 : BoxIs u w3 w5 (u.heap.size + 1 + 1) (partM k 2 (l.drop (i + 1))) := by
                have := hb2.pu pF
                simpa using this
            obtain ⟨B, m, d, M, kX, hsX, hhX, hdm⟩ := hbx
            obtain ⟨q', M', rfl, hq', hM'⟩ := hhX.cons
            have hml := hsX.len
            rw [List.length_cons] at hml
            have hmd := hsX.2.1
            obtain ⟨bb, oo, rfl, hbbl, -⟩ := hsX.2.2 (by omega)
            have hne : ((m : Int) == 0) = false := by simp; omega
            have hd1 : (1 : Int) ≤ (d : Int) := by omega
            have hm1 : (1 : Int) ≤ (m : Int) := by omega
            have hmdI : (m : Int) ≤ (d : Int) := by omega
            have hM1 := SlR.take1 hsX
            have hMt := SlR.tail hsX
            have pG := hP.trans pF
            have hsame : ∀ V qb, Pu w5 V → Blk V qb 35 #[.bool qg, .slice qA qn qc, .pointer qm, .bool false] → Calls Tryz.prog 11 #[.slice (some ⟨bb, oo, none⟩) 1 d, .slice (some ⟨qb, 0, none⟩) 1 1] V fun e w' => e = .returned (.bool true) ∧ Pu V w' := fun V qb pV hB => by
                have := same_any (some ⟨bb, oo, none⟩) (some ⟨qb, 0, none⟩) 1 d 1 1 [q'] [⟨qg, qA, qn, qc, qm, false⟩] [r] [r] V (hM1.pu (pG.trans pV)) (Sl.of_blk hB 4 1 1 rfl (by decide)) (HoldR.one (hq'.pu (pU.trans (pG.trans pV)))) (HoldR.one (Hri.out.pu (pU.trans (pG.trans pV)))) (fun x hx => by rw [List.mem_singleton.1 hx]; exact Hsml.out) (fun x hx => by rw [List.mem_singleton.1 hx]; exact Hsml.out) (by decide)
                rw [decide_eq_true (rfl : [r].map lookR = [r].map lookR)] at this
                exact this
            have Hsame := Lib.hid hsame
            have HM := Lib.hid (And.intro hMt (And.intro hM' (And.intro hml (And.intro hmd hdm))))
            clear hsame hM1 hMt hsX hhX hq' hM' hml hmd hdm hb0 hb1 hb2
            go_wp2_with fail
            have pd : Pu w5 w5.drew := (Pu.refl w5).drew
            refine wp_region_stableA3 12 (fun _ w => Pu w5 w) (fun _ => Pu) (fun io => match io with | 0 => fun vv_ _ => vv_ = .pointer (some ⟨u.heap.size, 0, none⟩) | 1 => fun vv_ _ => vv_ = .pointer (some ⟨u.heap.size, 0, none⟩) | 2 => fun vv_ _ => vv_ = .slice (some ⟨bb, oo, none⟩) m d | 3 => fun vv_ _ => vv_ = .int .i64 (m : Int) | 4 => fun vv_ _ => vv_ = .bool false | 5 => fun vv_ _ => vv_ = .bool false | 6 => fun vv_ _ => vv_ = .pointer (some ⟨u.heap.size, 0, none⟩) | 7 => fun vv_ _ => vv_ = .pointer (some ⟨u.heap.size, 0, none⟩) | 8 => fun vv_ _ => vv_ = .slice (some ⟨bb, oo, none⟩) m d | 9 => fun vv_ _ => vv_ = .slice (some ⟨bb, oo, none⟩) 1 d | 10 => fun vv_ _ => vv_ = .agg #[.bool qg, .slice qA qn qc, .pointer qm, .bool false] | 11 => fun v w => ∃ qb, v = .slice (some ⟨qb, 0, none⟩) 1 1 ∧ Blk w qb 35 #[.bool qg, .slice qA qn qc, .pointer qm, .bool false] | _ => fun _ _ => True) [some 69, some 70, some 71, some 72, some 73, some 74, some 75, some 76, some 77, some 78, some 79, some 80] (by kernel_rfl) (by kernel_rfl) rfl pd ?_ ?_ ?_ ?_
            · intro ko lst u u' hk hLk hI hR
              exact hI.trans hR
            · intro io ko v u u' hi hk hik h hR0
              have hR := hR0
              match io, hi, hik, h with
              | 0, _, _, h => exact h
              | 1, _, _, h => exact h
              | 2, _, _, h => exact h
              | 3, _, _, h => exact h
              | 4, _, _, h => exact h
              | 5, _, _, h => exact h
              | 6, _, _, h => exact h
              | 7, _, _, h => exact h
              | 8, _, _, h => exact h
              | 9, _, _, h => exact h
              | 10, _, _, h => exact h
              | 11, _, hik, h =>
                replace h : ∃ qb, v = .slice (some ⟨qb, 0, none⟩) 1 1 ∧ Blk u qb 35 #[.bool qg, .slice qA qn qc, .pointer qm, .bool false] := h
                obtain ⟨qb, e, h⟩ := h
                exact ⟨qb, e, h.pu hR⟩
              | _ + 12, hi, _, _ => exact absurd hi (by omega)
            · refine StepsS.cons [] rfl (by kernel_rfl) (fun y lst V hLk hV hp K hK => ?_) ?_
              · try dsimp only at hK
                simp only [putsL, upd, Act.put, List.setIfInBounds_toArray, List.set_cons_zero, List.set_cons_succ, Nat.reduceEqDiff, Nat.succ_ne_zero, Nat.reduceAdd, zero_ne_one_, one_ne_zero_, reduceIte] at hK ⊢
                clear hp
                try dsimp only at hV
                go_simp
                exact hK.out _ _ (Pu.refl _) rfl
              refine StepsS.cons [0] rfl (by kernel_rfl) (fun y lst V hLk hV hp K hK => ?_) ?_
              · try dsimp only at hK
                simp only [putsL, upd, Act.put, List.setIfInBounds_toArray, List.set_cons_zero, List.set_cons_succ, Nat.reduceEqDiff, Nat.succ_ne_zero, Nat.reduceAdd, zero_ne_one_, one_ne_zero_, reduceIte] at hK ⊢
                have e0 := hp 0 (by simp)
                clear hp
                try dsimp only at hV e0
                generalize y 0 = z0 at hK e0 ⊢
                subst e0
                go_simp
                exact hK.out _ _ (Pu.refl _) rfl
              refine StepsS.cons [1] rfl (by kernel_rfl) (fun y lst V hLk hV hp K hK => ?_) ?_
              · try dsimp only at hK
                simp only [putsL, upd, Act.put, List.setIfInBounds_toArray, List.set_cons_zero, List.set_cons_succ, Nat.reduceEqDiff, Nat.succ_ne_zero, Nat.reduceAdd, zero_ne_one_, one_ne_zero_, reduceIte] at hK ⊢
                have e1 := hp 1 (by simp)
                clear hp
                try dsimp only at hV e1
                generalize y 1 = z1 at hK e1 ⊢
                subst e1
                have z0 := (kX.pu hV).cell 0
                go_simp
                exact hK.out _ _ (Pu.refl _) rfl
              refine StepsS.cons [2] rfl (by kernel_rfl) (fun y lst V hLk hV hp K hK => ?_) ?_
              · try dsimp only at hK
                simp only [putsL, upd, Act.put, List.setIfInBounds_toArray, List.set_cons_zero, List.set_cons_succ, Nat.reduceEqDiff, Nat.succ_ne_zero, Nat.reduceAdd, zero_ne_one_, one_ne_zero_, reduceIte] at hK ⊢
                have e2 := hp 2 (by simp)
                clear hp
                try dsimp only at hV e2
                generalize y 2 = z2 at hK e2 ⊢
                subst e2
                go_simp
                exact hK.out _ _ (Pu.refl _) rfl
              refine StepsS.cons [3] rfl (by kernel_rfl) (fun y lst V hLk hV hp K hK => ?_) ?_
              · try dsimp only at hK
                simp only [putsL, upd, Act.put, List.setIfInBounds_toArray, List.set_cons_zero, List.set_cons_succ, Nat.reduceEqDiff, Nat.succ_ne_zero, Nat.reduceAdd, zero_ne_one_, one_ne_zero_, reduceIte] at hK ⊢
                have e3 := hp 3 (by simp)
                clear hp
                try dsimp only at hV e3
                generalize y 3 = z3 at hK e3 ⊢
                subst e3
                go_simp
                exact hK.out _ _ (Pu.refl _) rfl
              refine StepsS.cons [4] rfl (by kernel_rfl) (fun y lst V hLk hV hp K hK => ?_) ?_
              · try dsimp only at hK
                simp only [putsL, upd, Act.put, List.setIfInBounds_toArray, List.set_cons_zero, List.set_cons_succ, Nat.reduceEqDiff, Nat.succ_ne_zero, Nat.reduceAdd, zero_ne_one_, one_ne_zero_, reduceIte] at hK ⊢
                have e4 := hp 4 (by simp)
                clear hp
                try dsimp only at hV e4
                generalize y 4 = z4 at hK e4 ⊢
                subst e4
                go_simp
                exact hK.out _ _ (Pu.refl _) rfl
              refine StepsS.cons [5] rfl (by kernel_rfl) (fun y lst V hLk hV hp K hK => ?_) ?_
              · try dsimp only at hK
                simp only [putsL, upd, Act.put, List.setIfInBounds_toArray, List.set_cons_zero, List.set_cons_succ, Nat.reduceEqDiff, Nat.succ_ne_zero, Nat.reduceAdd, zero_ne_one_, one_ne_zero_, reduceIte] at hK ⊢
                have e5 := hp 5 (by simp)
                clear hp
                try dsimp only at hV e5
                generalize y 5 = z5 at hK e5 ⊢
                subst e5
                go_simp
                exact hK.out _ _ (Pu.refl _) rfl
              refine StepsS.cons [5, 6] rfl (by kernel_rfl) (fun y lst V hLk hV hp K hK => ?_) ?_
              · try dsimp only at hK
                simp only [putsL, upd, Act.put, List.setIfInBounds_toArray, List.set_cons_zero, List.set_cons_succ, Nat.reduceEqDiff, Nat.succ_ne_zero, Nat.reduceAdd, zero_ne_one_, one_ne_zero_, reduceIte] at hK ⊢
                have e5 := hp 5 (by simp)
                have e6 := hp 6 (by simp)
                clear hp
                try dsimp only at hV e5 e6
                generalize y 5 = z5 at hK e5 ⊢
                generalize y 6 = z6 at hK e6 ⊢
                subst e5
                subst e6
                go_simp
                exact hK.out _ _ (Pu.refl _) rfl
              refine StepsS.cons [5, 7] rfl (by kernel_rfl) (fun y lst V hLk hV hp K hK => ?_) ?_
              · try dsimp only at hK
                simp only [putsL, upd, Act.put, List.setIfInBounds_toArray, List.set_cons_zero, List.set_cons_succ, Nat.reduceEqDiff, Nat.succ_ne_zero, Nat.reduceAdd, zero_ne_one_, one_ne_zero_, reduceIte] at hK ⊢
                have e5 := hp 5 (by simp)
                have e7 := hp 7 (by simp)
                clear hp
                try dsimp only at hV e5 e7
                generalize y 5 = z5 at hK e5 ⊢
                generalize y 7 = z7 at hK e7 ⊢
                subst e5
                subst e7
                have z0 := (kX.pu hV).cell 0
                go_simp
                exact hK.out _ _ (Pu.refl _) rfl
              refine StepsS.cons [5, 8] rfl (by kernel_rfl) (fun y lst V hLk hV hp K hK => ?_) ?_
              · try dsimp only at hK
                simp only [putsL, upd, Act.put, List.setIfInBounds_toArray, List.set_cons_zero, List.set_cons_succ, Nat.reduceEqDiff, Nat.succ_ne_zero, Nat.reduceAdd, zero_ne_one_, one_ne_zero_, reduceIte] at hK ⊢
                have e5 := hp 5 (by simp)
                have e8 := hp 8 (by simp)
                clear hp
                try dsimp only at hV e5 e8
                generalize y 5 = z5 at hK e5 ⊢
                generalize y 8 = z8 at hK e8 ⊢
                subst e5
                subst e8
                go_simp
                exact hK.out _ _ (Pu.refl _) rfl
              refine StepsS.cons [5] rfl (by kernel_rfl) (fun y lst V hLk hV hp K hK => ?_) ?_
              · try dsimp only at hK
                simp only [putsL, upd, Act.put, List.setIfInBounds_toArray, List.set_cons_zero, List.set_cons_succ, Nat.reduceEqDiff, Nat.succ_ne_zero, Nat.reduceAdd, zero_ne_one_, one_ne_zero_, reduceIte] at hK ⊢
                have e5 := hp 5 (by simp)
                clear hp
                try dsimp only at hV e5
                generalize y 5 = z5 at hK e5 ⊢
                subst e5
                have z0 := (kR5.pu hV).cell 0
                have z1 := (kR5.pu hV).cell 1
                have z2 := (kR5.pu hV).cell 2
                have z3 := (kR5.pu hV).cell 3
                go_simp
                exact hK.out _ _ (Pu.refl _) rfl
              refine StepsS.cons [5, 10] rfl (by kernel_rfl) (fun y lst V hLk hV hp K hK => ?_) ?_
              · try dsimp only at hK
                simp only [putsL, upd, Act.put, List.setIfInBounds_toArray, List.set_cons_zero, List.set_cons_succ, Nat.reduceEqDiff, Nat.succ_ne_zero, Nat.reduceAdd, zero_ne_one_, one_ne_zero_, reduceIte] at hK ⊢
                have e5 := hp 5 (by simp)
                have e10 := hp 10 (by simp)
                clear hp
                try dsimp only at hV e5 e10
                generalize y 5 = z5 at hK e5 ⊢
                generalize y 10 = z10 at hK e10 ⊢
                subst e5
                subst e10
                go_simp
                exact hK.out _ _ ((Pu.refl _).alloc _) ⟨_, rfl, Blk.new _ _ _⟩
              exact StepsS.nil
            · intro y V lst hL hV hp
              have f0 := hp 0 (by decide)
              have f1 := hp 1 (by decide)
              have f2 := hp 2 (by decide)
              have f3 := hp 3 (by decide)
              have f4 := hp 4 (by decide)
              have f5 := hp 5 (by decide)
              have f6 := hp 6 (by decide)
              have f7 := hp 7 (by decide)
              have f8 := hp 8 (by decide)
              have f9 := hp 9 (by decide)
              have f10 := hp 10 (by decide)
              have f11 := hp 11 (by decide)
              clear hp
              try dsimp only at hV f0 f1 f2 f3 f4 f5 f6 f7 f8 f9 f10 f11
              simp only [putsL, upd, Act.put, List.setIfInBounds_toArray, List.set_cons_zero, List.set_cons_succ, Nat.reduceEqDiff, Nat.succ_ne_zero, Nat.reduceAdd, zero_ne_one_, one_ne_zero_, reduceIte]
              generalize y 0 = z0 at f0 ⊢
              generalize y 1 = z1 at f1 ⊢
              generalize y 2 = z2 at f2 ⊢
              generalize y 3 = z3 at f3 ⊢
              generalize y 4 = z4 at f4 ⊢
              generalize y 5 = z5 at f5 ⊢
              generalize y 6 = z6 at f6 ⊢
              generalize y 7 = z7 at f7 ⊢
              generalize y 8 = z8 at f8 ⊢
              generalize y 9 = z9 at f9 ⊢
              generalize y 10 = z10 at f10 ⊢
              generalize y 11 = z11 at f11 ⊢
              subst f0
              subst f1
              subst f2
              subst f3
              subst f4
              subst f5
              subst f6
              subst f7
              subst f8
              subst f9
              subst f10
              obtain ⟨qb, rfl, hB⟩ := f11
              go_wp2_with fail
              refine (Hsame.out _ _ hV hB).mono ?_
              rintro e w6 ⟨rfl, p6⟩
              have p56 := hV.trans p6
              have kX6 := kX.pu p56
              have z0 := kX6.cell 0
              have fz0 := kX6.frozen 0
              have hP6 := pG.trans p56
              have hs6 := hP6.size
              have hs56 := p56.size
              have hw1 := hy1.pu p56
              have hw2 := hy2.pu p56
              clear hB p6 pd
              by_cases hdd : d = 1
              · subst hdd
                have hme : m = 1 := by have := HM.out.2.2.2.1; omega
                subst hme
                obtain ⟨kY, eY⟩ := over_1 kX6 (.slice (some ⟨bb, oo, none⟩) 0 0)
                have hPY := hP6.step eY (fun j hj => by
                    have e' : j = u.heap.size := hj
                    omega)
                have hv1 := hw1.fr eY (by omega)
                have hv2 := hw2.fr eY (by omega)
                have HFk := Lib.hid (And.intro kY (And.intro hPY (And.intro hv1 hv2)))
                have hsY := eY.size
                clear kY eY hPY hv1 hv2 hw1 hw2 kX6
                go_wp2
                go_roundw
                case rel => exact ⟨i + 1, by omega, by go_num, by
                    have h1 := HM.out.2.2.1
                    have h2 := HM.out.2.2.2.1
                    have h3 : M'.length = 0 := by omega
                    exact ⟨some ⟨bb, oo, none⟩, 0, 0, M', HFk.out.1, by rw [List.length_eq_zero_iff.1 h3]; exact Sl.nil _ _ _ _, HM.out.2.1, Nat.zero_le _⟩, HFk.out.2.2.1, HFk.out.2.2.2, HFk.out.2.1, by omega⟩
                case measure => simp [intOf]; omega
              · skip
                obtain ⟨kY, eY⟩ := over_1 kX6 (.slice (some ⟨bb, oo + 4, none⟩) (m - 1) (d - 1))
                have hPY := hP6.step eY (fun j hj => by
                    have e' : j = u.heap.size := hj
                    omega)
                have hv1 := hw1.fr eY (by omega)
                have hv2 := hw2.fr eY (by omega)
                have HFk := Lib.hid (And.intro kY (And.intro hPY (And.intro hv1 hv2)))
                have hsY := eY.size
                clear kY eY hPY hv1 hv2 hw1 hw2 kX6
                go_wp2
                go_roundw
                case rel => exact ⟨i + 1, by omega, by go_num, ⟨some ⟨bb, oo + 4, none⟩, m - 1, d - 1, M', HFk.out.1, HM.out.1, HM.out.2.1, by have := HM.out.2.2.2.2; omega⟩, HFk.out.2.2.1, HFk.out.2.2.2, HFk.out.2.1, by omega⟩
                case measure => simp [intOf]; omega
          · have hbx : BoxIs u w3 w5 (u.heap.size + 1) ([r] ++ partM k 1 (l.drop (i + 1))) := by
                have := hb1.pu pF
                simpa using this
            have hy0 : BoxIs u w3 w5 (u.heap.size) (partM k 0 (l.drop (i + 1))) := by
                have := hb0.pu pF
                simpa using this
            have hy2 : BoxIs u w3 w5 (u.heap.size + 1 + 1) (partM k 2 (l.drop (i + 1))) := by
                have := hb2.pu pF
                simpa using this
            obtain ⟨B, m, d, M, kX, hsX, hhX, hdm⟩ := hbx
            obtain ⟨q', M', rfl, hq', hM'⟩ := hhX.cons
            have hml := hsX.len
            rw [List.length_cons] at hml
            have hmd := hsX.2.1
            obtain ⟨bb, oo, rfl, hbbl, -⟩ := hsX.2.2 (by omega)
            have hne : ((m : Int) == 0) = false := by simp; omega
            have hd1 : (1 : Int) ≤ (d : Int) := by omega
            have hm1 : (1 : Int) ≤ (m : Int) := by omega
            have hmdI : (m : Int) ≤ (d : Int) := by omega
            have hM1 := SlR.take1 hsX
            have hMt := SlR.tail hsX
            have pG := hP.trans pF
            have hsame : ∀ V qb, Pu w5 V → Blk V qb 35 #[.bool qg, .slice qA qn qc, .pointer qm, .bool false] → Calls Tryz.prog 11 #[.slice (some ⟨bb, oo, none⟩) 1 d, .slice (some ⟨qb, 0, none⟩) 1 1] V fun e w' => e = .returned (.bool true) ∧ Pu V w' := fun V qb pV hB => by
                have := same_any (some ⟨bb, oo, none⟩) (some ⟨qb, 0, none⟩) 1 d 1 1 [q'] [⟨qg, qA, qn, qc, qm, false⟩] [r] [r] V (hM1.pu (pG.trans pV)) (Sl.of_blk hB 4 1 1 rfl (by decide)) (HoldR.one (hq'.pu (pU.trans (pG.trans pV)))) (HoldR.one (Hri.out.pu (pU.trans (pG.trans pV)))) (fun x hx => by rw [List.mem_singleton.1 hx]; exact Hsml.out) (fun x hx => by rw [List.mem_singleton.1 hx]; exact Hsml.out) (by decide)
                rw [decide_eq_true (rfl : [r].map lookR = [r].map lookR)] at this
                exact this
            have Hsame := Lib.hid hsame
            have HM := Lib.hid (And.intro hMt (And.intro hM' (And.intro hml (And.intro hmd hdm))))
            clear hsame hM1 hMt hsX hhX hq' hM' hml hmd hdm hb0 hb1 hb2
            go_wp2_with fail
            have pd : Pu w5 w5.drew := (Pu.refl w5).drew
            refine wp_region_stableA3 12 (fun _ w => Pu w5 w) (fun _ => Pu) (fun io => match io with | 0 => fun vv_ _ => vv_ = .pointer (some ⟨u.heap.size + 1, 0, none⟩) | 1 => fun vv_ _ => vv_ = .pointer (some ⟨u.heap.size + 1, 0, none⟩) | 2 => fun vv_ _ => vv_ = .slice (some ⟨bb, oo, none⟩) m d | 3 => fun vv_ _ => vv_ = .int .i64 (m : Int) | 4 => fun vv_ _ => vv_ = .bool false | 5 => fun vv_ _ => vv_ = .bool false | 6 => fun vv_ _ => vv_ = .pointer (some ⟨u.heap.size + 1, 0, none⟩) | 7 => fun vv_ _ => vv_ = .pointer (some ⟨u.heap.size + 1, 0, none⟩) | 8 => fun vv_ _ => vv_ = .slice (some ⟨bb, oo, none⟩) m d | 9 => fun vv_ _ => vv_ = .slice (some ⟨bb, oo, none⟩) 1 d | 10 => fun vv_ _ => vv_ = .agg #[.bool qg, .slice qA qn qc, .pointer qm, .bool false] | 11 => fun v w => ∃ qb, v = .slice (some ⟨qb, 0, none⟩) 1 1 ∧ Blk w qb 35 #[.bool qg, .slice qA qn qc, .pointer qm, .bool false] | _ => fun _ _ => True) [some 69, some 70, some 71, some 72, some 73, some 74, some 75, some 76, some 77, some 78, some 79, some 80] (by kernel_rfl) (by kernel_rfl) rfl pd ?_ ?_ ?_ ?_
            · intro ko lst u u' hk hLk hI hR
              exact hI.trans hR
            · intro io ko v u u' hi hk hik h hR0
              have hR := hR0
              match io, hi, hik, h with
              | 0, _, _, h => exact h
              | 1, _, _, h => exact h
              | 2, _, _, h => exact h
              | 3, _, _, h => exact h
              | 4, _, _, h => exact h
              | 5, _, _, h => exact h
              | 6, _, _, h => exact h
              | 7, _, _, h => exact h
              | 8, _, _, h => exact h
              | 9, _, _, h => exact h
              | 10, _, _, h => exact h
              | 11, _, hik, h =>
                replace h : ∃ qb, v = .slice (some ⟨qb, 0, none⟩) 1 1 ∧ Blk u qb 35 #[.bool qg, .slice qA qn qc, .pointer qm, .bool false] := h
                obtain ⟨qb, e, h⟩ := h
                exact ⟨qb, e, h.pu hR⟩
              | _ + 12, hi, _, _ => exact absurd hi (by omega)
            · refine StepsS.cons [] rfl (by kernel_rfl) (fun y lst V hLk hV hp K hK => ?_) ?_
              · try dsimp only at hK
                simp only [putsL, upd, Act.put, List.setIfInBounds_toArray, List.set_cons_zero, List.set_cons_succ, Nat.reduceEqDiff, Nat.succ_ne_zero, Nat.reduceAdd, zero_ne_one_, one_ne_zero_, reduceIte] at hK ⊢
                clear hp
                try dsimp only at hV
                go_simp
                exact hK.out _ _ (Pu.refl _) rfl
              refine StepsS.cons [0] rfl (by kernel_rfl) (fun y lst V hLk hV hp K hK => ?_) ?_
              · try dsimp only at hK
                simp only [putsL, upd, Act.put, List.setIfInBounds_toArray, List.set_cons_zero, List.set_cons_succ, Nat.reduceEqDiff, Nat.succ_ne_zero, Nat.reduceAdd, zero_ne_one_, one_ne_zero_, reduceIte] at hK ⊢
                have e0 := hp 0 (by simp)
                clear hp
                try dsimp only at hV e0
                generalize y 0 = z0 at hK e0 ⊢
                subst e0
                go_simp
                exact hK.out _ _ (Pu.refl _) rfl
              refine StepsS.cons [1] rfl (by kernel_rfl) (fun y lst V hLk hV hp K hK => ?_) ?_
              · try dsimp only at hK
                simp only [putsL, upd, Act.put, List.setIfInBounds_toArray, List.set_cons_zero, List.set_cons_succ, Nat.reduceEqDiff, Nat.succ_ne_zero, Nat.reduceAdd, zero_ne_one_, one_ne_zero_, reduceIte] at hK ⊢
                have e1 := hp 1 (by simp)
                clear hp
                try dsimp only at hV e1
                generalize y 1 = z1 at hK e1 ⊢
                subst e1
                have z0 := (kX.pu hV).cell 0
                go_simp
                exact hK.out _ _ (Pu.refl _) rfl
              refine StepsS.cons [2] rfl (by kernel_rfl) (fun y lst V hLk hV hp K hK => ?_) ?_
              · try dsimp only at hK
                simp only [putsL, upd, Act.put, List.setIfInBounds_toArray, List.set_cons_zero, List.set_cons_succ, Nat.reduceEqDiff, Nat.succ_ne_zero, Nat.reduceAdd, zero_ne_one_, one_ne_zero_, reduceIte] at hK ⊢
                have e2 := hp 2 (by simp)
                clear hp
                try dsimp only at hV e2
                generalize y 2 = z2 at hK e2 ⊢
                subst e2
                go_simp
                exact hK.out _ _ (Pu.refl _) rfl
              refine StepsS.cons [3] rfl (by kernel_rfl) (fun y lst V hLk hV hp K hK => ?_) ?_
              · try dsimp only at hK
                simp only [putsL, upd, Act.put, List.setIfInBounds_toArray, List.set_cons_zero, List.set_cons_succ, Nat.reduceEqDiff, Nat.succ_ne_zero, Nat.reduceAdd, zero_ne_one_, one_ne_zero_, reduceIte] at hK ⊢
                have e3 := hp 3 (by simp)
                clear hp
                try dsimp only at hV e3
                generalize y 3 = z3 at hK e3 ⊢
                subst e3
                go_simp
                exact hK.out _ _ (Pu.refl _) rfl
              refine StepsS.cons [4] rfl (by kernel_rfl) (fun y lst V hLk hV hp K hK => ?_) ?_
              · try dsimp only at hK
                simp only [putsL, upd, Act.put, List.setIfInBounds_toArray, List.set_cons_zero, List.set_cons_succ, Nat.reduceEqDiff, Nat.succ_ne_zero, Nat.reduceAdd, zero_ne_one_, one_ne_zero_, reduceIte] at hK ⊢
                have e4 := hp 4 (by simp)
                clear hp
                try dsimp only at hV e4
                generalize y 4 = z4 at hK e4 ⊢
                subst e4
                go_simp
                exact hK.out _ _ (Pu.refl _) rfl
              refine StepsS.cons [5] rfl (by kernel_rfl) (fun y lst V hLk hV hp K hK => ?_) ?_
              · try dsimp only at hK
                simp only [putsL, upd, Act.put, List.setIfInBounds_toArray, List.set_cons_zero, List.set_cons_succ, Nat.reduceEqDiff, Nat.succ_ne_zero, Nat.reduceAdd, zero_ne_one_, one_ne_zero_, reduceIte] at hK ⊢
                have e5 := hp 5 (by simp)
                clear hp
                try dsimp only at hV e5
                generalize y 5 = z5 at hK e5 ⊢
                subst e5
                go_simp
                exact hK.out _ _ (Pu.refl _) rfl
              refine StepsS.cons [5, 6] rfl (by kernel_rfl) (fun y lst V hLk hV hp K hK => ?_) ?_
              · try dsimp only at hK
                simp only [putsL, upd, Act.put, List.setIfInBounds_toArray, List.set_cons_zero, List.set_cons_succ, Nat.reduceEqDiff, Nat.succ_ne_zero, Nat.reduceAdd, zero_ne_one_, one_ne_zero_, reduceIte] at hK ⊢
                have e5 := hp 5 (by simp)
                have e6 := hp 6 (by simp)
                clear hp
                try dsimp only at hV e5 e6
                generalize y 5 = z5 at hK e5 ⊢
                generalize y 6 = z6 at hK e6 ⊢
                subst e5
                subst e6
                go_simp
                exact hK.out _ _ (Pu.refl _) rfl
              refine StepsS.cons [5, 7] rfl (by kernel_rfl) (fun y lst V hLk hV hp K hK => ?_) ?_
              · try dsimp only at hK
                simp only [putsL, upd, Act.put, List.setIfInBounds_toArray, List.set_cons_zero, List.set_cons_succ, Nat.reduceEqDiff, Nat.succ_ne_zero, Nat.reduceAdd, zero_ne_one_, one_ne_zero_, reduceIte] at hK ⊢
                have e5 := hp 5 (by simp)
                have e7 := hp 7 (by simp)
                clear hp
                try dsimp only at hV e5 e7
                generalize y 5 = z5 at hK e5 ⊢
                generalize y 7 = z7 at hK e7 ⊢
                subst e5
                subst e7
                have z0 := (kX.pu hV).cell 0
                go_simp
                exact hK.out _ _ (Pu.refl _) rfl
              refine StepsS.cons [5, 8] rfl (by kernel_rfl) (fun y lst V hLk hV hp K hK => ?_) ?_
              · try dsimp only at hK
                simp only [putsL, upd, Act.put, List.setIfInBounds_toArray, List.set_cons_zero, List.set_cons_succ, Nat.reduceEqDiff, Nat.succ_ne_zero, Nat.reduceAdd, zero_ne_one_, one_ne_zero_, reduceIte] at hK ⊢
                have e5 := hp 5 (by simp)
                have e8 := hp 8 (by simp)
                clear hp
                try dsimp only at hV e5 e8
                generalize y 5 = z5 at hK e5 ⊢
                generalize y 8 = z8 at hK e8 ⊢
                subst e5
                subst e8
                go_simp
                exact hK.out _ _ (Pu.refl _) rfl
              refine StepsS.cons [5] rfl (by kernel_rfl) (fun y lst V hLk hV hp K hK => ?_) ?_
              · try dsimp only at hK
                simp only [putsL, upd, Act.put, List.setIfInBounds_toArray, List.set_cons_zero, List.set_cons_succ, Nat.reduceEqDiff, Nat.succ_ne_zero, Nat.reduceAdd, zero_ne_one_, one_ne_zero_, reduceIte] at hK ⊢
                have e5 := hp 5 (by simp)
                clear hp
                try dsimp only at hV e5
                generalize y 5 = z5 at hK e5 ⊢
                subst e5
                have z0 := (kR5.pu hV).cell 0
                have z1 := (kR5.pu hV).cell 1
                have z2 := (kR5.pu hV).cell 2
                have z3 := (kR5.pu hV).cell 3
                go_simp
                exact hK.out _ _ (Pu.refl _) rfl
              refine StepsS.cons [5, 10] rfl (by kernel_rfl) (fun y lst V hLk hV hp K hK => ?_) ?_
              · try dsimp only at hK
                simp only [putsL, upd, Act.put, List.setIfInBounds_toArray, List.set_cons_zero, List.set_cons_succ, Nat.reduceEqDiff, Nat.succ_ne_zero, Nat.reduceAdd, zero_ne_one_, one_ne_zero_, reduceIte] at hK ⊢
                have e5 := hp 5 (by simp)
                have e10 := hp 10 (by simp)
                clear hp
                try dsimp only at hV e5 e10
                generalize y 5 = z5 at hK e5 ⊢
                generalize y 10 = z10 at hK e10 ⊢
                subst e5
                subst e10
                go_simp
                exact hK.out _ _ ((Pu.refl _).alloc _) ⟨_, rfl, Blk.new _ _ _⟩
              exact StepsS.nil
            · intro y V lst hL hV hp
              have f0 := hp 0 (by decide)
              have f1 := hp 1 (by decide)
              have f2 := hp 2 (by decide)
              have f3 := hp 3 (by decide)
              have f4 := hp 4 (by decide)
              have f5 := hp 5 (by decide)
              have f6 := hp 6 (by decide)
              have f7 := hp 7 (by decide)
              have f8 := hp 8 (by decide)
              have f9 := hp 9 (by decide)
              have f10 := hp 10 (by decide)
              have f11 := hp 11 (by decide)
              clear hp
              try dsimp only at hV f0 f1 f2 f3 f4 f5 f6 f7 f8 f9 f10 f11
              simp only [putsL, upd, Act.put, List.setIfInBounds_toArray, List.set_cons_zero, List.set_cons_succ, Nat.reduceEqDiff, Nat.succ_ne_zero, Nat.reduceAdd, zero_ne_one_, one_ne_zero_, reduceIte]
              generalize y 0 = z0 at f0 ⊢
              generalize y 1 = z1 at f1 ⊢
              generalize y 2 = z2 at f2 ⊢
              generalize y 3 = z3 at f3 ⊢
              generalize y 4 = z4 at f4 ⊢
              generalize y 5 = z5 at f5 ⊢
              generalize y 6 = z6 at f6 ⊢
              generalize y 7 = z7 at f7 ⊢
              generalize y 8 = z8 at f8 ⊢
              generalize y 9 = z9 at f9 ⊢
              generalize y 10 = z10 at f10 ⊢
              generalize y 11 = z11 at f11 ⊢
              subst f0
              subst f1
              subst f2
              subst f3
              subst f4
              subst f5
              subst f6
              subst f7
              subst f8
              subst f9
              subst f10
              obtain ⟨qb, rfl, hB⟩ := f11
              go_wp2_with fail
              refine (Hsame.out _ _ hV hB).mono ?_
              rintro e w6 ⟨rfl, p6⟩
              have p56 := hV.trans p6
              have kX6 := kX.pu p56
              have z0 := kX6.cell 0
              have fz0 := kX6.frozen 0
              have hP6 := pG.trans p56
              have hs6 := hP6.size
              have hs56 := p56.size
              have hw0 := hy0.pu p56
              have hw2 := hy2.pu p56
              clear hB p6 pd
              by_cases hdd : d = 1
              · subst hdd
                have hme : m = 1 := by have := HM.out.2.2.2.1; omega
                subst hme
                obtain ⟨kY, eY⟩ := over_1 kX6 (.slice (some ⟨bb, oo, none⟩) 0 0)
                have hPY := hP6.step eY (fun j hj => by
                    have e' : j = u.heap.size + 1 := hj
                    omega)
                have hv0 := hw0.fr eY (by omega)
                have hv2 := hw2.fr eY (by omega)
                have HFk := Lib.hid (And.intro kY (And.intro hPY (And.intro hv0 hv2)))
                have hsY := eY.size
                clear kY eY hPY hv0 hv2 hw0 hw2 kX6
                go_wp2
                go_roundw
                case rel => exact ⟨i + 1, by omega, by go_num, HFk.out.2.2.1, by
                    have h1 := HM.out.2.2.1
                    have h2 := HM.out.2.2.2.1
                    have h3 : M'.length = 0 := by omega
                    exact ⟨some ⟨bb, oo, none⟩, 0, 0, M', HFk.out.1, by rw [List.length_eq_zero_iff.1 h3]; exact Sl.nil _ _ _ _, HM.out.2.1, Nat.zero_le _⟩, HFk.out.2.2.2, HFk.out.2.1, by omega⟩
                case measure => simp [intOf]; omega
              · skip
                obtain ⟨kY, eY⟩ := over_1 kX6 (.slice (some ⟨bb, oo + 4, none⟩) (m - 1) (d - 1))
                have hPY := hP6.step eY (fun j hj => by
                    have e' : j = u.heap.size + 1 := hj
                    omega)
                have hv0 := hw0.fr eY (by omega)
                have hv2 := hw2.fr eY (by omega)
                have HFk := Lib.hid (And.intro kY (And.intro hPY (And.intro hv0 hv2)))
                have hsY := eY.size
                clear kY eY hPY hv0 hv2 hw0 hw2 kX6
                go_wp2
                go_roundw
                case rel => exact ⟨i + 1, by omega, by go_num, HFk.out.2.2.1, ⟨some ⟨bb, oo + 4, none⟩, m - 1, d - 1, M', HFk.out.1, HM.out.1, HM.out.2.1, by have := HM.out.2.2.2.2; omega⟩, HFk.out.2.2.2, HFk.out.2.1, by omega⟩
                case measure => simp [intOf]; omega
        · obtain rfl : i = n1 := by omega
          have hdr : l.drop i = [] := List.drop_eq_nil_of_le (by rw [← HL.out.2.1, HL.out.1]; omega)
          rw [hdr, partM_nil] at hb0 hb1 hb2
          clear hdr
          obtain ⟨B0, m0, d0, M0, k0, hs0, hh0, -⟩ := hb0
          obtain ⟨B1, m1, d1, M1, k1, hs1, hh1, -⟩ := hb1
          obtain ⟨B2, m2, d2, M2, k2, hs2, hh2, -⟩ := hb2
          have e0 : m0 = 0 := by
            have h1 := hs0.len
            have h2 := hh0.1
            simp at h2
            rw [h2] at h1
            exact h1.symm
          have e1 : m1 = 0 := by
            have h1 := hs1.len
            have h2 := hh1.1
            simp at h2
            rw [h2] at h1
            exact h1.symm
          have e2 : m2 = 0 := by
            have h1 := hs2.len
            have h2 := hh2.1
            simp at h2
            rw [h2] at h1
            exact h1.symm
          subst e0 e1 e2
          have x0 := k0.cell 0
          have x1 := k1.cell 0
          have x2 := k2.cell 0
          have pE := pB.trans (pU.trans hP)
          clear hs0 hs1 hs2 hh0 hh1 hh2 k0 k1 k2
          go_wp2
          go_ret
          exact ⟨rfl, pE⟩
end
end Go.Proofs.YtckfnbckoclhpaaGreatDoor
