/- The document's numbers: made, Parse. -/
import Derived.Test.YtckfnbckoclhpaaDoorRefZ0
import Derived.Test.YtckfnbckoclhpaaDoorZParse
set_option linter.unusedVariables false
namespace Go.Proofs.YtckfnbckoclhpaaDoor
open Go.RowKit

theorem eiInt : ElemI Tryd.prog 37 3 (.int .i64 0) 1 8 := ⟨Tryd.underlying37, by kernel_rfl, rfl, by decide⟩
theorem own_dsnoc {w : World} {base n c r : Nat} {A : Option Addr} {os : List Nat} (h : w.ownsRow base 3 1 (.slice A n c) n (dws os ++ #[Value.int .i64 (r : Int)].toList)) : w.ownsRow base 3 1 (.slice A n c) n (dws (os ++ [r])) := by
  show w.ownsRow _ _ _ _ _ (List.map _ (_ ++ _))
  rw [List.map_append]
  exact h
set_option maxHeartbeats 1000000 in
set_option maxRecDepth 100000 in
theorem rmade_any (s : Int) (A : Option Addr) (n c : Nat) (l : List Nat) (w : World) (h : Sl w 1 A n c (dws l)) (hn : n ≤ 1000000) (hc : c ≤ maxLen) (hb : Below_ 10 l) (hI : IntAt w A) (hs : s = 1 ∨ s = -1 ∨ pval 10 l = 0) :
    Calls Tryd.prog 47 #[.int .i64 s, .slice A n c] w fun e w' => ∃ v, e = .returned v ∧ RZ w' v (s * (pval 10 l : Int)) ∧ Pu w w' := by
  have hl := h.dlen
  have hnc := h.2.1
  have hW : Pu w (w.alloc (.cells #[.int .i64 0, .slice none 0 0] 39)) := (Pu.refl w).alloc _
  have kA : Blk (w.alloc (.cells #[.int .i64 0, .slice none 0 0] 39)) w.heap.size 39 #[.int .i64 0, .slice none 0 0] := Blk.new _ _ _
  have hS := h.pu hW
  go_enter Tryd.func47, Tryd.ntmps47
  go_wp2_with fail
  go_loop [5] (fun i => ∃ j : Nat, j ≤ n ∧ i = .int .i64 j ∧ tidied l = tidied (l.take j)) (fun i => (intOf i).toNat)
  case atStart => exact ⟨n, Nat.le_refl _, rfl, by rw [List.take_of_length_le (by omega)]⟩
  case round =>
    obtain ⟨j, hj, rfl, ht⟩ := hrel
    have HT := Lib.hid ht
    clear ht
    rcases j with _ | k
    · have c0 : (w.alloc (.cells #[.int .i64 0, .slice none 0 0] 39)).cell? ⟨w.heap.size, 0, none⟩ = some (.int .i64 0) := kA.cell 0
      have c1 : (w.alloc (.cells #[.int .i64 0, .slice none 0 0] 39)).cell? ⟨w.heap.size, 1, none⟩ = some (.slice none 0 0) := kA.cell 1
      have e0 : pval 10 l = 0 := by rw [← tidied_val, HT.out]; rfl
      have E0 := Lib.hid e0
      clear e0
      go_wp2
      refine bodyPost_ret (v := .agg #[.int .i64 0, .slice none 0 0]) (by simp [results, Tryd.results47, go_sem, c0, c1]) rfl ⟨_, rfl, ?_, (Pu.refl w).alloc _⟩
      rw [E0.out, show ((0 : Nat) : Int) = 0 from rfl, Int.mul_zero]
      exact RZ.zero _
    · obtain ⟨x, hx⟩ : ∃ x, l[k]? = some x := ⟨_, List.getElem?_eq_getElem (by omega)⟩
      obtain ⟨b, off, rfl, hbl, hcell⟩ := hS.dat hx
      have Hx := Lib.hid hx
      clear hx
      have hw1 : IntKind.i64.wrap ((k : Int) + 1) = (k : Int) + 1 := IntWalk.i64_in _ (by omega)
      have hc63 : c ≤ 9223372036854775807 := hc
      by_cases e : x = 0
      · subst e
        go_wp2
        go_round
        case rel => exact ⟨k, by omega, by go_num, by rw [HT.out, tidied_take_succ Hx.out, if_pos rfl]⟩
        case measure => simp [intOf]
      · have hb0 : ((x : Int) == 0) = false := by simp; omega
        have e1 : tidied l = l.take (k + 1) := by rw [HT.out, tidied_take_succ Hx.out, if_neg e]
        have hlen : (tidied l).length = k + 1 := by rw [e1, List.length_take]; omega
        have hpos : 0 < pval 10 l := by
          rw [← tidied_val]
          exact pval_pos10 (tidied_tidy l) (fun e2 => by rw [e2] at hlen; simp at hlen)
        have hsg := sign_mul_pos (s := s) (V := pval 10 l) (by omega) hpos
        have fin : RZ (w.alloc (.cells #[.int .i64 s, .slice (some ⟨b, off, none⟩) (k + 1) c] 39)) (.agg #[.int .i64 s, .slice (some ⟨b, off, none⟩) (k + 1) c]) (s * (pval 10 l : Int)) := by
          have hT := tidied_Dl (h.pu ((Pu.refl w).alloc (.cells #[.int .i64 s, .slice (some ⟨b, off, none⟩) (k + 1) c] 39)))
          rw [hlen] at hT
          exact ⟨_, _, c, tidied l, by rw [hsg.1], hT, tidied_below hb, tidied_tidy l, by rw [tidied_val, hsg.2], hc, hI.pu ((Pu.refl w).alloc _)⟩
        have kB : Blk (w.alloc (.cells #[.int .i64 s, .slice (some ⟨b, off, none⟩) (k + 1) c] 39)) w.heap.size 39 #[.int .i64 s, .slice (some ⟨b, off, none⟩) (k + 1) c] := Blk.new _ _ _
        have c0 : (w.alloc (.cells #[.int .i64 s, .slice (some ⟨b, off, none⟩) (k + 1) c] 39)).cell? ⟨w.heap.size, 0, none⟩ = some (.int .i64 s) := kB.cell 0
        have c1 : (w.alloc (.cells #[.int .i64 s, .slice (some ⟨b, off, none⟩) (k + 1) c] 39)).cell? ⟨w.heap.size, 1, none⟩ = some (.slice (some ⟨b, off, none⟩) (k + 1) c) := kB.cell 1
        have Fin := Lib.hid fin
        clear e e1 hlen hpos hsg fin
        go_wp2
        exact bodyPost_ret (v := .agg #[.int .i64 s, .slice (some ⟨b, off, none⟩) (k + 1) c]) (by simp [results, Tryd.results47, go_sem, c0, c1]) rfl ⟨_, rfl, Fin.out, (Pu.refl w).alloc _⟩
/-- a number stored into a result's cells -/
theorem store_rz {w : World} {rb : Nat} {a0 : Int} {a1 : Option Addr} {a2 a3 : Nat} (hb : Blk w rb 39 #[.int .i64 a0, .slice a1 a2 a3]) (z0 : Int) (A : Option Addr) (n c : Nat) :
    ((w.setCell ⟨rb, 0, none⟩ (.int .i64 z0)).setCell ⟨rb, 1, none⟩ (.slice A n c)).cell? ⟨rb, 0, none⟩ = some (.int .i64 z0) ∧
    ((w.setCell ⟨rb, 0, none⟩ (.int .i64 z0)).setCell ⟨rb, 1, none⟩ (.slice A n c)).cell? ⟨rb, 1, none⟩ = some (.slice A n c) ∧
    (∀ w0, Pu w0 w → w0.heap.size ≤ rb → Pu w0 ((w.setCell ⟨rb, 0, none⟩ (.int .i64 z0)).setCell ⟨rb, 1, none⟩ (.slice A n c))) ∧
    (∀ v z, RZ w v z → RZ ((w.setCell ⟨rb, 0, none⟩ (.int .i64 z0)).setCell ⟨rb, 1, none⟩ (.slice A n c)) v z) := by
  have hb2 := (hb.set_ 0 (.int .i64 z0)).set_ 1 (.slice A n c)
  have hf : Fr (fun k => k = rb) w ((w.setCell ⟨rb, 0, none⟩ (.int .i64 z0)).setCell ⟨rb, 1, none⟩ (.slice A n c)) := (Fr.one w rb 0 _).trans (Fr.one _ rb 1 _)
  exact ⟨hb2.cell 0, hb2.cell 1, fun w0 h h0 => h.step hf (fun k e => by omega), fun v z h => h.fr hb (by decide) hf⟩

theorem pcode_bad {s : List UInt8} (h1 : ¬ 60 < (prest s).length) (h2 : goodDigs (pneg s) (prest s) = false) : pcode s = 10 := by
  unfold pcode
  rw [if_neg h1, h2]
  rfl
theorem goodDigs_digit {g : Bool} {R : List UInt8} {j : Nat} {b : UInt8} (h : R[j]? = some b) (hb : isDig b = false) : goodDigs g R = false := by
  unfold goodDigs
  have : R.all isDig = false := by
    cases e : R.all isDig with
    | false => rfl
    | true =>
      rw [List.all_eq_true] at e
      rw [e b (List.mem_of_getElem? h)] at hb
      cases hb
  rw [this]
  simp

theorem u8_drop_at {l : List UInt8} {j : Nat} {x : UInt8} (h : l[j]? = some x) : l.drop j = x :: l.drop (j + 1) := by
  have hj := (List.getElem?_eq_some_iff.1 h).1
  rw [List.drop_eq_getElem_cons hj]
  have e : l[j] = x := by rw [List.getElem?_eq_getElem hj] at h; injection h
  rw [e]

set_option maxHeartbeats 4000000 in
set_option maxRecDepth 100000 in
/-- the body behind the sign, at a sign σ and the digits R -/
theorem rparse_any (s : List UInt8) (w : World) (hsl : s.length ≤ 9223372036854775807) :
    Calls Tryd.prog 17 #[.string ⟨s.toArray⟩] w fun e w' => ∃ v, e = .returned (.tuple #[v, .int .i64 ((pcode s : Nat) : Int)]) ∧ RZ w' v (pres s) ∧ Pu w w' := by
  have hW : Pu w (w.alloc (.cells #[.int .i64 0, .slice none 0 0] 39)) := (Pu.refl w).alloc _
  have kA : Blk (w.alloc (.cells #[.int .i64 0, .slice none 0 0] 39)) w.heap.size 39 #[.int .i64 0, .slice none 0 0] := Blk.new _ _ _
  have c0 : (w.alloc (.cells #[.int .i64 0, .slice none 0 0] 39)).cell? ⟨w.heap.size, 0, none⟩ = some (.int .i64 0) := kA.cell 0
  have c1 : (w.alloc (.cells #[.int .i64 0, .slice none 0 0] 39)).cell? ⟨w.heap.size, 1, none⟩ = some (.slice none 0 0) := kA.cell 1
  have hpn : pnum s = (if pneg s then (-1 : Int) else 1) * (nval (prest s) : Int) := by
    unfold pnum
    cases pneg s <;> simp
  have bad : ∀ (c : Nat) (W : World), c ≠ 0 → pcode s = c → RZ W (.agg #[.int .i64 0, .slice none 0 0]) (pres s) := by
    intro c W h0 h1
    unfold pres
    rw [h1, if_neg h0]
    exact RZ.zero W
  have Bad := Lib.hid bad
  have Hpn := Lib.hid hpn
  clear bad hpn
  have hsz : (⟨s.toArray⟩ : ByteArray).size = s.length := by simp [ByteArray.size]
  have hpre : (s = []) ∨ (pneg s = true ∧ s[0]? = some 45 ∧ decide ((s.length : Int) > 0) = true ∧ decide ((0 : Int) < (s.length : Int)) = true) ∨ (∃ a : UInt8, pneg s = false ∧ s ≠ [] ∧ s[0]? = some a ∧ ((a.toNat : Int) == 45) = false ∧ decide ((s.length : Int) > 0) = true ∧ decide ((0 : Int) < (s.length : Int)) = true) := by
    cases s with
    | nil => exact .inl rfl
    | cons a t =>
      refine .inr ?_
      have h1 : decide (((a :: t).length : Int) > 0) = true := by simp
      have h2 : decide ((0 : Int) < ((a :: t).length : Int)) = true := by simp
      by_cases e : a = 45
      · exact .inl ⟨by rw [e]; rfl, by rw [e]; rfl, h1, h2⟩
      · have : a.toNat ≠ 45 := fun h => e (UInt8.toNat_inj.1 h)
        exact .inr ⟨a, by simp [pneg, e], by simp, rfl, by simp; omega, h1, h2⟩
  rcases hpre with rfl | ⟨hg, h0, d1, d2⟩ | ⟨a, hg, hne, h0, ha, d1, d2⟩
  · have hp : pcode [] = 10 := rfl
    have Hp := Lib.hid hp
    clear hp
    go_enter Tryd.func17, Tryd.ntmps17
    go_wp2
    exact bodyPost_ret (v := .tuple #[.agg #[.int .i64 0, .slice none 0 0], .int .i64 10]) (by simp [results, Tryd.results17, go_sem, c0, c1]) rfl ⟨_, rfl, Bad.out 10 _ (by decide) Hp.out, hW⟩
  · have hix := fun W => index_str (k := .i64) s 0 45 h0 Tryd.underlying9 W
    rw [show ((0 : Nat) : Int) = 0 from rfl] at hix
    obtain ⟨R, hR⟩ : ∃ R, R = prest s := ⟨_, rfl⟩
    have hex : (⟨s.toArray⟩ : ByteArray).extract 1 s.length = ⟨R.toArray⟩ := by
      rw [Lib.extract_mk, hR, prest, hg]
      congr 2
      rw [if_pos rfl, List.take_of_length_le (by rw [List.length_drop]; omega)]
      exact List.drop_one
    have hs0 : 0 < s.length := by simpa using d2
    have HR := Lib.hid hR
    have Hg := Lib.hid hg
    clear hR hg h0
    by_cases hlen : 60 < R.length
    · have d3 : decide ((R.length : Int) > 60) = true := by simp; omega
      have d4 : decide ((60 : Int) < (R.length : Int)) = true := by simp; omega
      have hp : pcode s = 11 := by unfold pcode; rw [← HR.out, if_pos hlen]
      have Hp := Lib.hid hp
      clear hp
      go_enter Tryd.func17, Tryd.ntmps17
      go_wp2
      exact bodyPost_ret (v := .tuple #[.agg #[.int .i64 0, .slice none 0 0], .int .i64 11]) (by simp [results, Tryd.results17, go_sem, c0, c1]) rfl ⟨_, by rw [Hp.out]; rfl, Bad.out 11 _ (by decide) Hp.out, hW⟩
    · have d3 : decide ((R.length : Int) > 60) = false := by simp; omega
      have d4 : decide ((60 : Int) < (R.length : Int)) = false := by simp; omega
      by_cases hne : R = []
      · have hp : pcode s = 10 := pcode_bad (by rw [← HR.out]; exact hlen) (by rw [← HR.out, Hg.out, hne]; rfl)
        subst hne
        have Hp := Lib.hid hp
        clear hp
        go_enter Tryd.func17, Tryd.ntmps17
        go_wp2
        exact bodyPost_ret (v := .tuple #[.agg #[.int .i64 0, .slice none 0 0], .int .i64 10]) (by simp [results, Tryd.results17, go_sem, c0, c1]) rfl ⟨_, by rw [Hp.out]; rfl, Bad.out 10 _ (by decide) Hp.out, hW⟩
      · have e0 : ((R.length : Int) == 0) = false := by
          have := List.length_pos_iff.2 hne
          simp
          omega
        obtain ⟨c, hc⟩ : ∃ c, R[0]? = some c := ⟨_, List.getElem?_eq_getElem (List.length_pos_iff.2 hne)⟩
        have hhead : R.head? = some c := by rw [List.head?_eq_getElem?]; exact hc
        have hixR := fun W => index_str (k := .i64) R 0 c hc Tryd.underlying9 W
        rw [show ((0 : Nat) : Int) = 0 from rfl] at hixR
        by_cases hc48 : c = 48
        · subst hc48
          by_cases h1 : 1 < R.length
          · have d5 : decide ((R.length : Int) > 1) = true := by simp; omega
            have d6 : decide ((1 : Int) < (R.length : Int)) = true := by simp; omega
            have hp : pcode s = 10 := pcode_bad (by rw [← HR.out]; exact hlen) (by
              rw [← HR.out, Hg.out]
              unfold goodDigs
              rw [hhead]
              simp [h1])
            clear hhead hc
            have Hp := Lib.hid hp
            clear hp
            go_enter Tryd.func17, Tryd.ntmps17
            go_wp2
            exact bodyPost_ret (v := .tuple #[.agg #[.int .i64 0, .slice none 0 0], .int .i64 10]) (by simp [results, Tryd.results17, go_sem, c0, c1]) rfl ⟨_, by rw [Hp.out]; rfl, Bad.out 10 _ (by decide) Hp.out, hW⟩
          · have d5 : decide ((R.length : Int) > 1) = false := by simp; omega
            have d6 : decide ((1 : Int) < (R.length : Int)) = false := by simp; omega
            have hp : pcode s = 10 := pcode_bad (by rw [← HR.out]; exact hlen) (by
              rw [← HR.out, Hg.out]
              unfold goodDigs
              rw [hhead]
              simp)
            clear hhead hc
            have Hp := Lib.hid hp
            clear hp
            go_enter Tryd.func17, Tryd.ntmps17
            go_wp2
            exact bodyPost_ret (v := .tuple #[.agg #[.int .i64 0, .slice none 0 0], .int .i64 10]) (by simp [results, Tryd.results17, go_sem, c0, c1]) rfl ⟨_, by rw [Hp.out]; rfl, Bad.out 10 _ (by decide) Hp.out, hW⟩
        · have e48 : ((c.toNat : Int) == 48) = false := by
            have : c.toNat ≠ 48 := fun h => hc48 (UInt8.toNat_inj.1 h)
            simp
            omega
          have hgood : R.all isDig = true → goodDigs true R = true := by
            intro h
            unfold goodDigs
            rw [h, hhead]
            simp [hne, hc48]
          clear hhead hc
          have hga := Lib.hid hgood
          clear hgood
          have c0' := c0
          clear c0 c1
          go_enter Tryd.func17, Tryd.ntmps17
          go_wp2_with fail
          clear hix hixR
          go_loopw [6, 7] (fun ov iv ws => ∃ (j n1 c1 : Nat) (A1 : Option Addr) (ds : List Nat), j + n1 = R.length ∧ iv = .int .i64 ((j : Int) - 1) ∧ ov = .slice A1 n1 c1 ∧ ws.ownsRow (w.heap.size + 1) 3 1 (.slice A1 n1 c1) n1 (dws ds) ∧ ds = (R.drop j).reverse.map bdig ∧ (R.drop j).all isDig = true ∧ Pu (w.alloc (.cells #[.int .i64 0, .slice none 0 0] 39)) ws) (fun _ iv _ => (intOf iv + 1).toNat)
          case atStart => exact ⟨R.length, 0, 0, none, [], rfl, rfl, rfl, World.ownsRow_nil _ _ _ _, by rw [List.drop_eq_nil_of_le (Nat.le_refl _)]; rfl, by rw [List.drop_eq_nil_of_le (Nat.le_refl _)]; rfl, Pu.refl _⟩
          case round =>
            obtain ⟨j, n1, c1, A1, ds, hj, rfl, rfl, ho, hds, hall, hP⟩ := hrel
            have Hds := Lib.hid hds
            have Hall := Lib.hid hall
            have Hj := Lib.hid hj
            have hn60 : n1 ≤ 60 := by omega
            have hj60 : j ≤ 60 := by omega
            have hPw := hW.trans hP
            have kA2 := kA.pu hP
            have hsz : w.heap.size + 1 ≤ wr.heap.size := by simpa using hP.size
            clear hds hall hj
            rcases j with _ | j
            · have hle := own_le ho
              have hS := Sl.of_own ho
              have ha2 : R.all isDig = true := by simpa using Hall.out
              have hb2 : Below_ 10 ds := by
                rw [Hds.out]
                exact digs_below (by simpa using ha2)
              have hv2 : pval 10 ds = nval (prest s) := by
                rw [Hds.out, ← HR.out]
                rfl
              have hp : pcode s = 0 := by
                unfold pcode
                rw [← HR.out, if_neg hlen, Hg.out, if_pos (hga.out ha2)]
              have hmd := rmade_any (-1 : Int) A1 n1 c1 ds wr hS (by omega) hle.2 hb2 (IntAt.of_own ho) (by omega)
              rw [hv2] at hmd
              have hz : (-1 : Int) * (nval (prest s) : Int) = pres s := by
                unfold pres
                rw [hp, if_pos rfl, Hpn.out, Hg.out]
                rfl
              rw [hz] at hmd
              have Hp := Lib.hid hp
              clear hp hv2 hb2 ha2 hS hle ho hz
              go_wp2_with fail
              refine hmd.mono ?_
              rintro e w3 ⟨v', rfl, hz', p3⟩
              have hR1 := kA2.pu p3
              have hv' := hz'
              obtain ⟨A', n', c', l', rfl, -⟩ := hv'
              have q0 : w3.cell? ⟨w.heap.size, 0, none⟩ = some (.int .i64 0) := hR1.cell 0
              have q1 : w3.cell? ⟨w.heap.size, 1, none⟩ = some (.slice none 0 0) := hR1.cell 1
              have f0 : w3.frozen? ⟨w.heap.size, 0, none⟩ = false := hR1.frozen 0
              have f1 : w3.frozen? ⟨w.heap.size, 1, none⟩ = false := hR1.frozen 1
              obtain ⟨r0, r1, rp, rf⟩ := store_rz hR1 (pres s).sign A' n' c'
              have Hfin := Lib.hid (rf _ _ hz')
              have PP := rp _ (hPw.trans p3) (Nat.le_refl _)
              clear hz'
              go_wp2
              exact bodyPost_ret (v := .tuple #[.agg #[.int .i64 (pres s).sign, .slice A' n' c'], .int .i64 0]) (by simp [results, Tryd.results17, go_sem, r0, r1]) rfl ⟨_, by rw [Hp.out]; rfl, Hfin.out, PP⟩
            · obtain ⟨b, hb⟩ : ∃ b, R[j]? = some b := ⟨_, List.getElem?_eq_getElem (by have := Hj.out; omega)⟩
              have ej : ((j + 1 : Nat) : Int) - 1 = (j : Int) := by omega
              rw [ej]
              have hwj : IntKind.i64.wrap ((j : Int) - 1) = (j : Int) - 1 := IntWalk.i64_in _ (by omega)
              have hixj := fun W => index_str (k := .i64) R j b hb Tryd.underlying9 W
              have Hb := Lib.hid hb
              clear hb
              by_cases hdig : isDig b = true
              · have hd2 := (isDig_iff b).1 hdig
                obtain ⟨x, hx⟩ : ∃ x, x = bdig b := ⟨_, rfl⟩
                have hx48 : (b.toNat : Int) = 48 + (x : Int) := by rw [hx]; unfold bdig; omega
                have hx9 : x ≤ 9 := by rw [hx]; unfold bdig; omega
                rw [hx48] at hixj
                have dlo : decide (48 + (x : Int) < 48) = false := by simp; omega
                have dhi : decide (48 + (x : Int) > 57) = false := by simp; omega
                have dhi2 : decide (57 < 48 + (x : Int)) = false := by simp; omega
                have hw3 : IntKind.u8.wrap (48 + (x : Int) - 48) = (x : Int) := by rw [IntKind.wrap_u8]; omega
                have hw4 : IntKind.i64.wrap (x : Int) = (x : Int) := IntWalk.i64_in _ (by omega)
                have Hx := Lib.hid hx
                have Hdig := Lib.hid hdig
                clear hx hx48 hd2 hdig
                go_wp2_with (at_builtin; refine wpList_push eiInt rfl (.tmp 59) (.tmp 65) rfl #[.int .i64 (x : Int)] rfl (by simp [Value.oneCell']) rfl rfl ho (by simp [maxLen]; omega) (by omega) hsz ?_)
                intro A3 c3 w3 ho3 hg3
                have hP3 := hP.grown hg3 (fun k hk => by have := (ho.lt k hk).1; simpa using this)
                have ho4 := own_dsnoc ho3
                clear ho hg3 ho3 hsz hixj kA2 hPw
                go_wp2
                go_roundw
                case rel => exact ⟨j, n1 + 1, c3, A3, ds ++ [x], by have := Hj.out; omega, rfl, rfl, ho4, by
                  rw [u8_drop_at Hb.out, List.reverse_cons, List.map_append, Hds.out, Hx.out]
                  rfl, by
                  rw [u8_drop_at Hb.out, List.all_cons, Hall.out, Hdig.out]
                  rfl, hP3⟩
                case measure => simp [intOf]
              · have hbad : goodDigs true R = false := goodDigs_digit Hb.out (by simpa using hdig)
                have hp : pcode s = 10 := pcode_bad (by rw [← HR.out]; exact hlen) (by rw [← HR.out, Hg.out]; exact hbad)
                have hd2 : ¬ (48 ≤ b.toNat ∧ b.toNat ≤ 57) := fun h => hdig ((isDig_iff b).2 h)
                obtain ⟨r0, r1, rp, rf⟩ := store_rz kA2 0 none 0 0
                have PP := rp _ hPw (Nat.le_refl _)
                have q0 : wr.cell? ⟨w.heap.size, 0, none⟩ = some (.int .i64 0) := kA2.cell 0
                have q1 : wr.cell? ⟨w.heap.size, 1, none⟩ = some (.slice none 0 0) := kA2.cell 1
                have f0 : wr.frozen? ⟨w.heap.size, 0, none⟩ = false := kA2.frozen 0
                have f1 : wr.frozen? ⟨w.heap.size, 1, none⟩ = false := kA2.frozen 1
                have hd3 : decide ((b.toNat : Int) < 48) = true ∨ (decide ((b.toNat : Int) < 48) = false ∧ decide ((b.toNat : Int) > 57) = true ∧ decide (57 < (b.toNat : Int)) = true) := by
                  rcases Nat.lt_or_ge b.toNat 48 with h | h
                  · exact .inl (by simp; omega)
                  · exact .inr ⟨by simp; omega, by simp; omega, by simp; omega⟩
                have Hp := Lib.hid hp
                clear hp hbad hdig hd2 ho
                rcases hd3 with d8 | ⟨d8, d9, d10⟩
                all_goals
                  go_wp2
                  exact bodyPost_ret (v := .tuple #[.agg #[.int .i64 0, .slice none 0 0], .int .i64 10]) (by simp [results, Tryd.results17, go_sem, r0, r1]) rfl ⟨_, by rw [Hp.out]; rfl, Bad.out 10 _ (by decide) Hp.out, PP⟩
  · have hix := fun W => index_str (k := .i64) s 0 a h0 Tryd.underlying9 W
    rw [show ((0 : Nat) : Int) = 0 from rfl] at hix
    have hs0 : 0 < s.length := by simpa using d2
    have HR : Hid (s = prest s) := Lib.hid (by unfold prest; rw [hg]; rfl)
    have Hg := Lib.hid hg
    have H0 := Lib.hid h0
    clear hg h0
    by_cases hlen : 60 < s.length
    · have d3 : decide ((s.length : Int) > 60) = true := by simp; omega
      have d4 : decide ((60 : Int) < (s.length : Int)) = true := by simp; omega
      have hp : pcode s = 11 := by unfold pcode; rw [← HR.out, if_pos hlen]
      have Hp := Lib.hid hp
      clear hp
      go_enter Tryd.func17, Tryd.ntmps17
      go_wp2
      exact bodyPost_ret (v := .tuple #[.agg #[.int .i64 0, .slice none 0 0], .int .i64 11]) (by simp [results, Tryd.results17, go_sem, c0, c1]) rfl ⟨_, by rw [Hp.out]; rfl, Bad.out 11 _ (by decide) Hp.out, hW⟩
    · have d3 : decide ((s.length : Int) > 60) = false := by simp; omega
      have d4 : decide ((60 : Int) < (s.length : Int)) = false := by simp; omega
      by_cases hnn : False
      · exact hnn.elim
      · have e0 : ((s.length : Int) == 0) = false := by
          have := List.length_pos_iff.2 hne
          simp
          omega
        obtain ⟨c, hc⟩ : ∃ c, s[0]? = some c := ⟨_, List.getElem?_eq_getElem (List.length_pos_iff.2 hne)⟩
        obtain rfl : c = a := by
          have := H0.out
          rw [hc] at this
          injection this
        have hhead : s.head? = some c := by rw [List.head?_eq_getElem?]; exact hc
        have hixR := fun W => index_str (k := .i64) s 0 c hc Tryd.underlying9 W
        rw [show ((0 : Nat) : Int) = 0 from rfl] at hixR
        by_cases hc48 : c = 48
        · subst hc48
          by_cases h1 : 1 < s.length
          · have d5 : decide ((s.length : Int) > 1) = true := by simp; omega
            have d6 : decide ((1 : Int) < (s.length : Int)) = true := by simp; omega
            have hp : pcode s = 10 := pcode_bad (by rw [← HR.out]; exact hlen) (by
              rw [← HR.out, Hg.out]
              unfold goodDigs
              rw [hhead]
              simp [h1])
            clear hhead hc
            have Hp := Lib.hid hp
            clear hp
            go_enter Tryd.func17, Tryd.ntmps17
            go_wp2
            exact bodyPost_ret (v := .tuple #[.agg #[.int .i64 0, .slice none 0 0], .int .i64 10]) (by simp [results, Tryd.results17, go_sem, c0, c1]) rfl ⟨_, by rw [Hp.out]; rfl, Bad.out 10 _ (by decide) Hp.out, hW⟩
          · have d5 : decide ((s.length : Int) > 1) = false := by simp; omega
            have d6 : decide ((1 : Int) < (s.length : Int)) = false := by simp; omega
            have hgood : s.all isDig = true → goodDigs false s = true := by
              intro h
              unfold goodDigs
              rw [h]
              simp [hne]
              omega
            clear hhead hc
            have hga := Lib.hid hgood
            clear hgood
            have c0' := c0
            clear c0 c1
            go_enter Tryd.func17, Tryd.ntmps17
            go_wp2_with fail
            clear hix hixR
            go_loopw [6, 7] (fun ov iv ws => ∃ (j n1 c1 : Nat) (A1 : Option Addr) (ds : List Nat), j + n1 = s.length ∧ iv = .int .i64 ((j : Int) - 1) ∧ ov = .slice A1 n1 c1 ∧ ws.ownsRow (w.heap.size + 1) 3 1 (.slice A1 n1 c1) n1 (dws ds) ∧ ds = (s.drop j).reverse.map bdig ∧ (s.drop j).all isDig = true ∧ Pu (w.alloc (.cells #[.int .i64 0, .slice none 0 0] 39)) ws) (fun _ iv _ => (intOf iv + 1).toNat)
            case atStart => exact ⟨s.length, 0, 0, none, [], rfl, rfl, rfl, World.ownsRow_nil _ _ _ _, by rw [List.drop_eq_nil_of_le (Nat.le_refl _)]; rfl, by rw [List.drop_eq_nil_of_le (Nat.le_refl _)]; rfl, Pu.refl _⟩
            case round =>
              obtain ⟨j, n1, c1, A1, ds, hj, rfl, rfl, ho, hds, hall, hP⟩ := hrel
              have Hds := Lib.hid hds
              have Hall := Lib.hid hall
              have Hj := Lib.hid hj
              have hn60 : n1 ≤ 60 := by omega
              have hj60 : j ≤ 60 := by omega
              have hPw := hW.trans hP
              have kA2 := kA.pu hP
              have hsz : w.heap.size + 1 ≤ wr.heap.size := by simpa using hP.size
              clear hds hall hj
              rcases j with _ | j
              · have hle := own_le ho
                have hS := Sl.of_own ho
                have ha2 : s.all isDig = true := by simpa using Hall.out
                have hb2 : Below_ 10 ds := by
                  rw [Hds.out]
                  exact digs_below (by simpa using ha2)
                have hv2 : pval 10 ds = nval (prest s) := by
                  rw [Hds.out, ← HR.out]
                  rfl
                have hp : pcode s = 0 := by
                  unfold pcode
                  rw [← HR.out, if_neg hlen, Hg.out, if_pos (hga.out ha2)]
                have hmd := rmade_any (1 : Int) A1 n1 c1 ds wr hS (by omega) hle.2 hb2 (IntAt.of_own ho) (by omega)
                rw [hv2] at hmd
                have hz : (1 : Int) * (nval (prest s) : Int) = pres s := by
                  unfold pres
                  rw [hp, if_pos rfl, Hpn.out, Hg.out]
                  rfl
                rw [hz] at hmd
                have Hp := Lib.hid hp
                clear hp hv2 hb2 ha2 hS hle ho hz
                go_wp2_with fail
                refine hmd.mono ?_
                rintro e w3 ⟨v', rfl, hz', p3⟩
                have hR1 := kA2.pu p3
                have hv' := hz'
                obtain ⟨A', n', c', l', rfl, -⟩ := hv'
                have q0 : w3.cell? ⟨w.heap.size, 0, none⟩ = some (.int .i64 0) := hR1.cell 0
                have q1 : w3.cell? ⟨w.heap.size, 1, none⟩ = some (.slice none 0 0) := hR1.cell 1
                have f0 : w3.frozen? ⟨w.heap.size, 0, none⟩ = false := hR1.frozen 0
                have f1 : w3.frozen? ⟨w.heap.size, 1, none⟩ = false := hR1.frozen 1
                obtain ⟨r0, r1, rp, rf⟩ := store_rz hR1 (pres s).sign A' n' c'
                have Hfin := Lib.hid (rf _ _ hz')
                have PP := rp _ (hPw.trans p3) (Nat.le_refl _)
                clear hz'
                go_wp2
                exact bodyPost_ret (v := .tuple #[.agg #[.int .i64 (pres s).sign, .slice A' n' c'], .int .i64 0]) (by simp [results, Tryd.results17, go_sem, r0, r1]) rfl ⟨_, by rw [Hp.out]; rfl, Hfin.out, PP⟩
              · obtain ⟨b, hb⟩ : ∃ b, s[j]? = some b := ⟨_, List.getElem?_eq_getElem (by have := Hj.out; omega)⟩
                have ej : ((j + 1 : Nat) : Int) - 1 = (j : Int) := by omega
                rw [ej]
                have hwj : IntKind.i64.wrap ((j : Int) - 1) = (j : Int) - 1 := IntWalk.i64_in _ (by omega)
                have hixj := fun W => index_str (k := .i64) s j b hb Tryd.underlying9 W
                have Hb := Lib.hid hb
                clear hb
                by_cases hdig : isDig b = true
                · have hd2 := (isDig_iff b).1 hdig
                  obtain ⟨x, hx⟩ : ∃ x, x = bdig b := ⟨_, rfl⟩
                  have hx48 : (b.toNat : Int) = 48 + (x : Int) := by rw [hx]; unfold bdig; omega
                  have hx9 : x ≤ 9 := by rw [hx]; unfold bdig; omega
                  rw [hx48] at hixj
                  have dlo : decide (48 + (x : Int) < 48) = false := by simp; omega
                  have dhi : decide (48 + (x : Int) > 57) = false := by simp; omega
                  have dhi2 : decide (57 < 48 + (x : Int)) = false := by simp; omega
                  have hw3 : IntKind.u8.wrap (48 + (x : Int) - 48) = (x : Int) := by rw [IntKind.wrap_u8]; omega
                  have hw4 : IntKind.i64.wrap (x : Int) = (x : Int) := IntWalk.i64_in _ (by omega)
                  have Hx := Lib.hid hx
                  have Hdig := Lib.hid hdig
                  clear hx hx48 hd2 hdig
                  go_wp2_with (at_builtin; refine wpList_push eiInt rfl (.tmp 59) (.tmp 65) rfl #[.int .i64 (x : Int)] rfl (by simp [Value.oneCell']) rfl rfl ho (by simp [maxLen]; omega) (by omega) hsz ?_)
                  intro A3 c3 w3 ho3 hg3
                  have hP3 := hP.grown hg3 (fun k hk => by have := (ho.lt k hk).1; simpa using this)
                  have ho4 := own_dsnoc ho3
                  clear ho hg3 ho3 hsz hixj kA2 hPw
                  go_wp2
                  go_roundw
                  case rel => exact ⟨j, n1 + 1, c3, A3, ds ++ [x], by have := Hj.out; omega, rfl, rfl, ho4, by
                    rw [u8_drop_at Hb.out, List.reverse_cons, List.map_append, Hds.out, Hx.out]
                    rfl, by
                    rw [u8_drop_at Hb.out, List.all_cons, Hall.out, Hdig.out]
                    rfl, hP3⟩
                  case measure => simp [intOf]
                · have hbad : goodDigs false s = false := goodDigs_digit Hb.out (by simpa using hdig)
                  have hp : pcode s = 10 := pcode_bad (by rw [← HR.out]; exact hlen) (by rw [← HR.out, Hg.out]; exact hbad)
                  have hd2 : ¬ (48 ≤ b.toNat ∧ b.toNat ≤ 57) := fun h => hdig ((isDig_iff b).2 h)
                  obtain ⟨r0, r1, rp, rf⟩ := store_rz kA2 0 none 0 0
                  have PP := rp _ hPw (Nat.le_refl _)
                  have q0 : wr.cell? ⟨w.heap.size, 0, none⟩ = some (.int .i64 0) := kA2.cell 0
                  have q1 : wr.cell? ⟨w.heap.size, 1, none⟩ = some (.slice none 0 0) := kA2.cell 1
                  have f0 : wr.frozen? ⟨w.heap.size, 0, none⟩ = false := kA2.frozen 0
                  have f1 : wr.frozen? ⟨w.heap.size, 1, none⟩ = false := kA2.frozen 1
                  have hd3 : decide ((b.toNat : Int) < 48) = true ∨ (decide ((b.toNat : Int) < 48) = false ∧ decide ((b.toNat : Int) > 57) = true ∧ decide (57 < (b.toNat : Int)) = true) := by
                    rcases Nat.lt_or_ge b.toNat 48 with h | h
                    · exact .inl (by simp; omega)
                    · exact .inr ⟨by simp; omega, by simp; omega, by simp; omega⟩
                  have Hp := Lib.hid hp
                  clear hp hbad hdig hd2 ho
                  rcases hd3 with d8 | ⟨d8, d9, d10⟩
                  all_goals
                    go_wp2
                    exact bodyPost_ret (v := .tuple #[.agg #[.int .i64 0, .slice none 0 0], .int .i64 10]) (by simp [results, Tryd.results17, go_sem, r0, r1]) rfl ⟨_, by rw [Hp.out]; rfl, Bad.out 10 _ (by decide) Hp.out, PP⟩
        · have e48 : ((c.toNat : Int) == 48) = false := by
            have : c.toNat ≠ 48 := fun h => hc48 (UInt8.toNat_inj.1 h)
            simp
            omega
          have hgood : s.all isDig = true → goodDigs false s = true := by
            intro h
            unfold goodDigs
            rw [h, hhead]
            simp [hne, hc48]
          clear hhead hc
          have hga := Lib.hid hgood
          clear hgood
          have c0' := c0
          clear c0 c1
          go_enter Tryd.func17, Tryd.ntmps17
          go_wp2_with fail
          clear hix hixR
          go_loopw [6, 7] (fun ov iv ws => ∃ (j n1 c1 : Nat) (A1 : Option Addr) (ds : List Nat), j + n1 = s.length ∧ iv = .int .i64 ((j : Int) - 1) ∧ ov = .slice A1 n1 c1 ∧ ws.ownsRow (w.heap.size + 1) 3 1 (.slice A1 n1 c1) n1 (dws ds) ∧ ds = (s.drop j).reverse.map bdig ∧ (s.drop j).all isDig = true ∧ Pu (w.alloc (.cells #[.int .i64 0, .slice none 0 0] 39)) ws) (fun _ iv _ => (intOf iv + 1).toNat)
          case atStart => exact ⟨s.length, 0, 0, none, [], rfl, rfl, rfl, World.ownsRow_nil _ _ _ _, by rw [List.drop_eq_nil_of_le (Nat.le_refl _)]; rfl, by rw [List.drop_eq_nil_of_le (Nat.le_refl _)]; rfl, Pu.refl _⟩
          case round =>
            obtain ⟨j, n1, c1, A1, ds, hj, rfl, rfl, ho, hds, hall, hP⟩ := hrel
            have Hds := Lib.hid hds
            have Hall := Lib.hid hall
            have Hj := Lib.hid hj
            have hn60 : n1 ≤ 60 := by omega
            have hj60 : j ≤ 60 := by omega
            have hPw := hW.trans hP
            have kA2 := kA.pu hP
            have hsz : w.heap.size + 1 ≤ wr.heap.size := by simpa using hP.size
            clear hds hall hj
            rcases j with _ | j
            · have hle := own_le ho
              have hS := Sl.of_own ho
              have ha2 : s.all isDig = true := by simpa using Hall.out
              have hb2 : Below_ 10 ds := by
                rw [Hds.out]
                exact digs_below (by simpa using ha2)
              have hv2 : pval 10 ds = nval (prest s) := by
                rw [Hds.out, ← HR.out]
                rfl
              have hp : pcode s = 0 := by
                unfold pcode
                rw [← HR.out, if_neg hlen, Hg.out, if_pos (hga.out ha2)]
              have hmd := rmade_any (1 : Int) A1 n1 c1 ds wr hS (by omega) hle.2 hb2 (IntAt.of_own ho) (by omega)
              rw [hv2] at hmd
              have hz : (1 : Int) * (nval (prest s) : Int) = pres s := by
                unfold pres
                rw [hp, if_pos rfl, Hpn.out, Hg.out]
                rfl
              rw [hz] at hmd
              have Hp := Lib.hid hp
              clear hp hv2 hb2 ha2 hS hle ho hz
              go_wp2_with fail
              refine hmd.mono ?_
              rintro e w3 ⟨v', rfl, hz', p3⟩
              have hR1 := kA2.pu p3
              have hv' := hz'
              obtain ⟨A', n', c', l', rfl, -⟩ := hv'
              have q0 : w3.cell? ⟨w.heap.size, 0, none⟩ = some (.int .i64 0) := hR1.cell 0
              have q1 : w3.cell? ⟨w.heap.size, 1, none⟩ = some (.slice none 0 0) := hR1.cell 1
              have f0 : w3.frozen? ⟨w.heap.size, 0, none⟩ = false := hR1.frozen 0
              have f1 : w3.frozen? ⟨w.heap.size, 1, none⟩ = false := hR1.frozen 1
              obtain ⟨r0, r1, rp, rf⟩ := store_rz hR1 (pres s).sign A' n' c'
              have Hfin := Lib.hid (rf _ _ hz')
              have PP := rp _ (hPw.trans p3) (Nat.le_refl _)
              clear hz'
              go_wp2
              exact bodyPost_ret (v := .tuple #[.agg #[.int .i64 (pres s).sign, .slice A' n' c'], .int .i64 0]) (by simp [results, Tryd.results17, go_sem, r0, r1]) rfl ⟨_, by rw [Hp.out]; rfl, Hfin.out, PP⟩
            · obtain ⟨b, hb⟩ : ∃ b, s[j]? = some b := ⟨_, List.getElem?_eq_getElem (by have := Hj.out; omega)⟩
              have ej : ((j + 1 : Nat) : Int) - 1 = (j : Int) := by omega
              rw [ej]
              have hwj : IntKind.i64.wrap ((j : Int) - 1) = (j : Int) - 1 := IntWalk.i64_in _ (by omega)
              have hixj := fun W => index_str (k := .i64) s j b hb Tryd.underlying9 W
              have Hb := Lib.hid hb
              clear hb
              by_cases hdig : isDig b = true
              · have hd2 := (isDig_iff b).1 hdig
                obtain ⟨x, hx⟩ : ∃ x, x = bdig b := ⟨_, rfl⟩
                have hx48 : (b.toNat : Int) = 48 + (x : Int) := by rw [hx]; unfold bdig; omega
                have hx9 : x ≤ 9 := by rw [hx]; unfold bdig; omega
                rw [hx48] at hixj
                have dlo : decide (48 + (x : Int) < 48) = false := by simp; omega
                have dhi : decide (48 + (x : Int) > 57) = false := by simp; omega
                have dhi2 : decide (57 < 48 + (x : Int)) = false := by simp; omega
                have hw3 : IntKind.u8.wrap (48 + (x : Int) - 48) = (x : Int) := by rw [IntKind.wrap_u8]; omega
                have hw4 : IntKind.i64.wrap (x : Int) = (x : Int) := IntWalk.i64_in _ (by omega)
                have Hx := Lib.hid hx
                have Hdig := Lib.hid hdig
                clear hx hx48 hd2 hdig
                go_wp2_with (at_builtin; refine wpList_push eiInt rfl (.tmp 59) (.tmp 65) rfl #[.int .i64 (x : Int)] rfl (by simp [Value.oneCell']) rfl rfl ho (by simp [maxLen]; omega) (by omega) hsz ?_)
                intro A3 c3 w3 ho3 hg3
                have hP3 := hP.grown hg3 (fun k hk => by have := (ho.lt k hk).1; simpa using this)
                have ho4 := own_dsnoc ho3
                clear ho hg3 ho3 hsz hixj kA2 hPw
                go_wp2
                go_roundw
                case rel => exact ⟨j, n1 + 1, c3, A3, ds ++ [x], by have := Hj.out; omega, rfl, rfl, ho4, by
                  rw [u8_drop_at Hb.out, List.reverse_cons, List.map_append, Hds.out, Hx.out]
                  rfl, by
                  rw [u8_drop_at Hb.out, List.all_cons, Hall.out, Hdig.out]
                  rfl, hP3⟩
                case measure => simp [intOf]
              · have hbad : goodDigs false s = false := goodDigs_digit Hb.out (by simpa using hdig)
                have hp : pcode s = 10 := pcode_bad (by rw [← HR.out]; exact hlen) (by rw [← HR.out, Hg.out]; exact hbad)
                have hd2 : ¬ (48 ≤ b.toNat ∧ b.toNat ≤ 57) := fun h => hdig ((isDig_iff b).2 h)
                obtain ⟨r0, r1, rp, rf⟩ := store_rz kA2 0 none 0 0
                have PP := rp _ hPw (Nat.le_refl _)
                have q0 : wr.cell? ⟨w.heap.size, 0, none⟩ = some (.int .i64 0) := kA2.cell 0
                have q1 : wr.cell? ⟨w.heap.size, 1, none⟩ = some (.slice none 0 0) := kA2.cell 1
                have f0 : wr.frozen? ⟨w.heap.size, 0, none⟩ = false := kA2.frozen 0
                have f1 : wr.frozen? ⟨w.heap.size, 1, none⟩ = false := kA2.frozen 1
                have hd3 : decide ((b.toNat : Int) < 48) = true ∨ (decide ((b.toNat : Int) < 48) = false ∧ decide ((b.toNat : Int) > 57) = true ∧ decide (57 < (b.toNat : Int)) = true) := by
                  rcases Nat.lt_or_ge b.toNat 48 with h | h
                  · exact .inl (by simp; omega)
                  · exact .inr ⟨by simp; omega, by simp; omega, by simp; omega⟩
                have Hp := Lib.hid hp
                clear hp hbad hdig hd2 ho
                rcases hd3 with d8 | ⟨d8, d9, d10⟩
                all_goals
                  go_wp2
                  exact bodyPost_ret (v := .tuple #[.agg #[.int .i64 0, .slice none 0 0], .int .i64 10]) (by simp [results, Tryd.results17, go_sem, r0, r1]) rfl ⟨_, by rw [Hp.out]; rfl, Bad.out 10 _ (by decide) Hp.out, PP⟩
end Go.Proofs.YtckfnbckoclhpaaDoor
