/- zed: Parse. -/
import Derived.Test.YtckfnbckoclhpaaDoorZParse0
import Derived.Test.YtckfnbckoclhpaaDoorZScale
import Derived.Test.YtckfnbckoclhpaaDoorZed3
import Derived.Test.YtckfnbckoclhpaaDoorShelf
import Derived.Shelf.Strings.SlTrimAscii
set_option linter.unusedVariables false
namespace Go.Proofs.YtckfnbckoclhpaaDoor
open Go.RowKit

theorem trim_digits (s : ByteArray) (w : World) (hs : s.size ≤ 1000) :
    Calls Tryd.prog 44 #[.string s, .string ⟨#[48, 49, 50, 51, 52, 53, 54, 55, 56, 57]⟩] w fun e w' => e = .returned (.string ⟨(Lib.trimS s.data.toList [48, 49, 50, 51, 52, 53, 54, 55, 56, 57]).toArray⟩) ∧ Pu w w' := by
  refine (Any.strings_Trim_laid Tryd.lays160 (by kernel_rfl) s ⟨#[48, 49, 50, 51, 52, 53, 54, 55, 56, 57]⟩ w (by omega) (by decide) (fun j b h => ?_)).mono fun e w' ⟨h1, h2⟩ => ⟨h1, Pu.of_below h2⟩
  have hb : b ∈ ([48, 49, 50, 51, 52, 53, 54, 55, 56, 57] : List UInt8) := List.mem_of_getElem? h
  clear h
  simp only [List.mem_cons, List.not_mem_nil, or_false] at hb
  rcases hb with rfl | rfl | rfl | rfl | rfl | rfl | rfl | rfl | rfl | rfl <;> decide
theorem cut_minus (s : List UInt8) : Lib.trimPrefix s [45] = prest s ∧ Lib.hasPrefix s [45] = pneg s := by
  unfold Lib.trimPrefix Lib.hasPrefix prest pneg
  cases s with
  | nil => exact ⟨rfl, rfl⟩
  | cons a t =>
    have e : [45].isPrefixOf (a :: t) = (some a == some 45) := by
      simp only [List.isPrefixOf, Bool.and_true]
      by_cases h : a = 45
      · subst h; rfl
      · have h1 : ((45 : UInt8) == a) = false := by simp; exact fun e => h e.symm
        have h2 : (some a == some (45 : UInt8)) = false := by simp [h]
        rw [h1, h2]
    rw [e]
    refine ⟨?_, rfl⟩
    simp

/-- the number that a text's reading hands out: nought where there is none -/
def pres (s : List UInt8) : Int := if pcode s = 0 then pnum s else 0

set_option maxHeartbeats 2000000 in
set_option maxRecDepth 100000 in
theorem parse_new (s : List UInt8) (w : World) :
    Calls Tryd.prog 16 #[.string ⟨s.toArray⟩] w fun e w' => ∃ v, e = .returned (.tuple #[v, .int .i64 ((pcode s : Nat) : Int)]) ∧ ZR w' v (pres s) ∧ Bey w.heap.size v ∧ Pu w w' := by
  have hW : Pu w (w.alloc (.cells #[.bool false, .slice none 0 0] 25)) := (Pu.refl w).alloc _
  have kA : Blk (w.alloc (.cells #[.bool false, .slice none 0 0] 25)) w.heap.size 25 #[.bool false, .slice none 0 0] := Blk.new _ _ _
  have hcut := Tryd.strings_CutPrefix ⟨s.toArray⟩ ⟨#[45]⟩ (w.alloc (.cells #[.bool false, .slice none 0 0] 25))
  have hcm := cut_minus s
  have e1 : Lib.trimPrefix (⟨s.toArray⟩ : ByteArray).data.toList (⟨#[45]⟩ : ByteArray).data.toList = prest s := hcm.1
  have e2 : Lib.hasPrefix (⟨s.toArray⟩ : ByteArray).data.toList (⟨#[45]⟩ : ByteArray).data.toList = pneg s := hcm.2
  rw [e1, e2] at hcut
  clear hcm e1 e2
  have hpc : pcode s = if 60 < (prest s).length then 11 else if goodDigs (pneg s) (prest s) then 0 else 10 := rfl
  have hpn : pnum s = sgn (pneg s) (nval (prest s)) := rfl
  have bad : ∀ (c : Nat) (W : World), c ≠ 0 → pcode s = c → Pu w W → ZR W (.agg #[.bool false, .slice none 0 0]) (pres s) := by
    intro c W h0 h1 h2
    unfold pres
    rw [h1, if_neg h0]
    exact ⟨false, none, 0, 0, [], rfl, Sl.nil _ _ _ _, Below_.nil _, tidy_nil, (fun e => by cases e), by simp [maxLen], rfl⟩
  have Bad := Lib.hid bad
  have Hpc := Lib.hid hpc
  have Hpn := Lib.hid hpn
  clear bad hpc hpn
  obtain ⟨R, hR⟩ : ∃ R, R = prest s := ⟨_, rfl⟩
  obtain ⟨g, hg⟩ : ∃ g, g = pneg s := ⟨_, rfl⟩
  rw [← hR, ← hg] at hcut Hpc Hpn
  clear hR hg
  have hsz : (⟨R.toArray⟩ : ByteArray).size = R.length := by simp [ByteArray.size]
  by_cases hlen : 60 < R.length
  · have d1 : decide ((R.length : Int) > 60) = true := by simp; omega
    have d2 : decide ((60 : Int) < (R.length : Int)) = true := by simp; omega
    have hp : pcode s = 11 := by rw [Hpc.out, if_pos hlen]
    have Hp := Lib.hid hp
    clear hp
    have Hf := Lib.hid (Bad.out 11 _ (by decide) Hp.out hW)
    clear hW
    go_enter Tryd.func16, Tryd.ntmps16
    go_wp2_with fail
    refine hcut.mono ?_
    rintro e w1 ⟨rfl, rfl⟩
    have c0 : (w.alloc (.cells #[.bool false, .slice none 0 0] 25)).cell? ⟨w.heap.size, 0, none⟩ = some (.bool false) := kA.cell 0
    have c1 : (w.alloc (.cells #[.bool false, .slice none 0 0] 25)).cell? ⟨w.heap.size, 1, none⟩ = some (.slice none 0 0) := kA.cell 1
    go_wp2
    all_goals refine bodyPost_ret (v := .tuple #[.agg #[.bool false, .slice none 0 0], .int .i64 11]) (by simp [results, Tryd.results16, go_sem, c0, c1]) rfl ⟨_, by rw [Hp.out]; rfl, Hf.out, Bey.mk (Beyond.none _), (Pu.refl w).alloc _⟩
  · have d1 : decide ((R.length : Int) > 60) = false := by simp; omega
    have d2 : decide ((60 : Int) < (R.length : Int)) = false := by simp; omega
    have htr := trim_digits ⟨R.toArray⟩ (w.alloc (.cells #[.bool false, .slice none 0 0] 25)) (by omega)
    by_cases hgood : goodDigs g R = true
    · unfold goodDigs at hgood
      simp only [Bool.and_eq_true, Bool.not_eq_true'] at hgood
      obtain ⟨⟨h1, h2⟩, h3⟩ := hgood
      have hp : pcode s = 0 := by rw [Hpc.out, if_neg hlen, if_pos (by unfold goodDigs; rw [h1, h2, h3]; rfl)]
      have hne : R ≠ [] := by simpa using h1
      have h0len : 0 < R.length := List.length_pos_iff.2 hne
      obtain ⟨c, hc⟩ : ∃ c, R[0]? = some c := ⟨_, List.getElem?_eq_getElem h0len⟩
      have hT : Lib.trimS R [48, 49, 50, 51, 52, 53, 54, 55, 56, 57] = [] := by
        rw [trimS_nil]
        rw [List.all_eq_true] at h2 ⊢
        intro x hx
        rw [digits_contains]
        exact h2 x hx
      have hT2 : Lib.trimS (⟨R.toArray⟩ : ByteArray).data.toList [48, 49, 50, 51, 52, 53, 54, 55, 56, 57] = [] := hT
      rw [hT2] at htr
      have hix : ∀ W : World, (Instr.index 9 (.string ⟨R.toArray⟩) (.int .i64 0)).run Tryd.prog W = .ok (.int .u8 (c.toNat : Int)) W := fun W => index_str R 0 c hc Tryd.underlying9 W
      have hcs : (((c.toNat : Int) == 48) = false) ∨ (((c.toNat : Int) == 48) = true ∧ decide ((R.length : Int) > 1) = false ∧ decide ((1 : Int) < (R.length : Int)) = false ∧ g = false) := by
        by_cases e : c = 48
        · refine .inr ⟨by rw [e]; rfl, ?_⟩
          rw [List.head?_eq_getElem?, hc, e] at h3
          simp at h3
          exact ⟨by simp; omega, by simp; omega, h3.2⟩
        · refine .inl ?_
          have : c.toNat ≠ 48 := fun h => e (UInt8.toNat_inj.1 h)
          simp
          omega
      have hemp : R.isEmpty = false := by simp [hne]
      have hR10 : ∀ k, pval 10 (((R.take k).reverse).map bdig) = nval (R.take k) := fun k => rfl
      have Hp := Lib.hid hp
      have H2 := Lib.hid h2
      have hW2 := hW
      clear hp h1 h2 h3 hT hT2 hc hne hR10
      rcases hcs with hcs | ⟨hcs, d5, d6, rfl⟩
      all_goals
        go_enter Tryd.func16, Tryd.ntmps16
        go_wp2_with fail
        refine hcut.mono ?_
        rintro e w1 ⟨rfl, rfl⟩
        go_wp2_with fail
        refine htr.mono ?_
        rintro e w2 ⟨rfl, p2⟩
        have kA2 := kA.pu p2
        have PW : Pu w w2 := hW2.trans p2
        clear hcut htr hW hW2 kA
        go_wp2_with fail
        clear hix
        go_loopw [4, 6] (fun rv mv ws => ∃ (k n c : Nat) (A : Option Addr) (l : List Nat), k ≤ R.length ∧ rv = .string ⟨(R.drop k).toArray⟩ ∧ mv = .slice A n c ∧ Sl ws 1 A n c (wds l) ∧ Below_ 4294967296 l ∧ Tidy l ∧ c ≤ maxLen ∧ Beyond w.heap.size A ∧ pval 4294967296 l = nval (R.take k) ∧ Pu w2 ws) (fun rv _ _ => Lib.strSize rv)
        case atStart => exact ⟨0, 0, 0, none, [], Nat.zero_le _, rfl, rfl, Sl.nil _ _ _ _, Below_.nil _, tidy_nil, by simp [maxLen], Beyond.none _, rfl, Pu.refl _⟩
        case round =>
          obtain ⟨k, n, c5, A, l, hk, rfl, rfl, hS, hb, ht, hc5, hBy, hv, hP⟩ := hrel
          have hln := hS.wlen
          have hvb : pval 4294967296 l < 4294967296 ^ 7 := by
            rw [hv]
            have h6 := nval_lt (all_append_take H2.out k)
            have h7 : 10 ^ (R.take k).length ≤ 10 ^ 60 := Nat.pow_le_pow_right (by omega) (by rw [List.length_take]; omega)
            exact Nat.lt_of_lt_of_le (Nat.lt_of_lt_of_le h6 h7) (by decide)
          have hn7 := tidy_len ht hvb
          rw [hln] at hn7
          have HV := Lib.hid hv
          clear hv hvb
          obtain ⟨r, hr⟩ : ∃ r, r = R.drop k := ⟨_, rfl⟩
          have hrl : r.length = R.length - k := by rw [hr, List.length_drop]
          have hrs : (⟨r.toArray⟩ : ByteArray).size = r.length := by simp [ByteArray.size]
          rw [← hr]
          have Hr := Lib.hid hr
          have Hrl := Lib.hid hrl
          clear hr hrl
          by_cases hr0 : r = []
          · subst hr0
            have hkR : k = R.length := by have := Hrl.out; simp at this; omega
            have hmd := fun gg => made_new gg A n c5 l wr hS (by omega) hc5 hb
            rw [HV.out, hkR, List.take_of_length_le (Nat.le_refl _)] at hmd
            have Hmd := Lib.hid hmd
            have kA3 := kA2.pu hP
            have PW3 := PW.trans hP
            clear hmd
            go_wp2_with fail
            refine (Hmd.out _).mono ?_
            rintro e w3 ⟨v', rfl, hz', hby, p3⟩
            rw [← Hpn.out] at hz'
            have hR1 := kA3.pu p3
            have hv' := hz'
            obtain ⟨g', A', n', c', l', rfl, -⟩ := hv'
            have q0 : w3.cell? ⟨w.heap.size, 0, none⟩ = some (.bool false) := hR1.cell 0
            have q1 : w3.cell? ⟨w.heap.size, 1, none⟩ = some (.slice none 0 0) := hR1.cell 1
            have f0 : w3.frozen? ⟨w.heap.size, 0, none⟩ = false := hR1.frozen 0
            have f1 : w3.frozen? ⟨w.heap.size, 1, none⟩ = false := hR1.frozen 1
            obtain ⟨r0, r1, rz, rp⟩ := store_num hR1 g' A' n' c'
            go_wp2
            refine bodyPost_ret (v := .tuple #[.agg #[.bool g', .slice A' n' c'], .int .i64 0]) (by simp [results, Tryd.results16, go_sem, r0, r1]) rfl ⟨_, by rw [Hp.out]; rfl, ?_, hby _ hBy, rp _ (PW3.trans p3) (Nat.le_refl _)⟩
            have := rz _ _ hz'
            unfold pres
            rw [Hp.out, if_pos rfl]
            exact this
          · have hr0' : 0 < r.length := List.length_pos_iff.2 hr0
            obtain ⟨N, hN⟩ : ∃ N, N = min 9 r.length := ⟨_, rfl⟩
            have hN1 : 0 < N := by omega
            have hrl := Hrl.out
            have hmin : min (9 : Int) (r.length : Int) = (N : Int) := by omega
            have d7 : decide ((r.length : Int) > 0) = true := by simp; omega
            have d8 : decide ((0 : Int) < (r.length : Int)) = true := by simp; omega
            have hNr : N ≤ r.length := by omega
            have hN9 : N ≤ 9 := by omega
            clear hrl
            obtain ⟨D, hD⟩ : ∃ D, D = r.take N := ⟨_, rfl⟩
            obtain ⟨E, hE⟩ : ∃ E, E = r.drop N := ⟨_, rfl⟩
            have hDl : D.length = N := by rw [hD, List.length_take]; omega
            have hEl : E.length = r.length - N := by rw [hE, List.length_drop]
            have hex : (⟨r.toArray⟩ : ByteArray).extract 0 N = ⟨D.toArray⟩ := by rw [Lib.extract_mk, hD]; simp
            have hex2 : (⟨r.toArray⟩ : ByteArray).extract N r.length = ⟨E.toArray⟩ := by
              rw [Lib.extract_mk, hE, List.take_of_length_le (by rw [List.length_drop]; omega)]
            have hDd : D.all isDig = true := by
              rw [hD, Hr.out]
              rw [List.all_eq_true]
              have h8 := H2.out
              rw [List.all_eq_true] at h8
              exact fun x hx => h8 x (List.mem_of_mem_drop (List.mem_of_mem_take hx))
            obtain ⟨cD, WD, hcv, hcD, hWD⟩ := bytes_run (P := Tryd.prog) (src := 9) (dst := 74) wr D Tryd.underlying9 Tryd.underlying74 Tryd.underlying5
            rw [hDl] at hcv
            have hPD : Pu wr WD := by rw [hWD]; exact bytes_pu _ _ _
            have hcells : ∀ j b, D[j]? = some b → WD.cell? ⟨wr.heap.size, j, none⟩ = some (.int .u8 (b.toNat : Int)) := by
              intro j b hj
              have hjl := (List.getElem?_eq_some_iff.1 hj).1
              have h9 := (bytes_holds wr 5 D j (by simpa using hjl)).1
              rw [Nat.zero_add, ← hWD] at h9
              rw [h9]
              have e9 : D.toArray[j]! = b := by
                rw [getElem!_pos D.toArray j (by simpa using hjl)]
                have := (List.getElem?_eq_some_iff.1 hj).2
                simpa using this
              rw [e9]
            have hEn : nval (R.take (k + N)) = nval (R.take k) * 10 ^ N + nval D := by
              rw [List.take_add, nval_append, ← Hr.out, ← hD, hDl]
            have hEd : E = R.drop (k + N) := by rw [hE, Hr.out, List.drop_drop]
            have HD := Lib.hid hDl
            have HEn := Lib.hid hEn
            have HEd := Lib.hid hEd
            have HEl := Lib.hid hEl
            have Hcells := Lib.hid hcells
            have HDd := Lib.hid hDd
            have hcDm : N ≤ cD := by omega
            have hkN : k + N ≤ R.length := by have := Hrl.out; omega
            clear hN hD hE hDl hEl hWD hEn hEd hcells hDd hcD
            go_wp2_with fail
            go_loopw [8, 9, 55] (fun bv pv iv ws => ∃ j B V : Nat, j ≤ N ∧ iv = .int .i64 (j : Int) ∧ bv = .int .u64 (B : Int) ∧ B = 10 ^ j ∧ pv = .int .u64 (V : Int) ∧ V = nval (D.take j) ∧ Pu WD ws) (fun _ _ iv _ => N - (intOf iv).toNat)
            case atStart => exact ⟨0, 1, 0, Nat.zero_le _, rfl, rfl, rfl, rfl, rfl, Pu.refl _⟩
            case round =>
              obtain ⟨j, B, V, hj, rfl, rfl, hB, rfl, hV, hPj⟩ := hrel
              have hB9 : B ≤ 10 ^ 9 := by rw [hB]; exact Nat.pow_le_pow_right (by omega) (by omega)
              have hVB : V < B := by
                rw [hV, hB]
                have h6 := nval_lt (all_append_take HDd.out j)
                rwa [List.length_take, Nat.min_eq_left (by have := HD.out; omega)] at h6
              have HB := Lib.hid hB
              have HVv := Lib.hid hV
              clear hB hV
              by_cases hjN : j < N
              · obtain ⟨b, hbj⟩ : ∃ b, D[j]? = some b := ⟨_, List.getElem?_eq_getElem (by have := HD.out; omega)⟩
                have hcell := hPj.cellv (Hcells.out j b hbj)
                have hbd : 48 ≤ b.toNat ∧ b.toNat ≤ 57 := by
                  have h8 := HDd.out
                  rw [List.all_eq_true] at h8
                  exact (isDig_iff b).1 (h8 b (List.mem_of_getElem? hbj))
                obtain ⟨x, hx⟩ : ∃ x, x = bdig b := ⟨_, rfl⟩
                have hx48 : (b.toNat : Int) = 48 + (x : Int) := by rw [hx]; unfold bdig; omega
                have hx9 : x ≤ 9 := by rw [hx]; unfold bdig; omega
                rw [hx48] at hcell
                have hvn : nval (D.take (j + 1)) = V * 10 + x := by
                  rw [List.take_add_one, hbj, HVv.out, hx]
                  exact nval_snoc _ _
                have Hvn := Lib.hid hvn
                have hw1 : IntKind.u64.wrap ((B : Int) * 10) = (B : Int) * 10 := by rw [IntKind.wrap_u64]; omega
                have hw2 : IntKind.u64.wrap ((V : Int) * 10) = (V : Int) * 10 := by rw [IntKind.wrap_u64]; omega
                have hw3 : IntKind.u8.wrap (48 + (x : Int) - 48) = (x : Int) := by rw [IntKind.wrap_u8]; omega
                have hw4 := u64_small (a := x) (by omega)
                have hw5 : IntKind.u64.wrap ((V : Int) * 10 + (x : Int)) = (V : Int) * 10 + (x : Int) := by rw [IntKind.wrap_u64]; omega
                clear hx hbj hbd hvn hx48
                go_wp2
                go_roundw
                case rel => exact ⟨j + 1, B * 10, V * 10 + x, by omega, by go_num, rfl, by rw [HB.out, Nat.pow_succ], rfl, Hvn.out.symm, hPj⟩
                case measure => simp [intOf]; omega
              · obtain rfl : j = N := by omega
                have hsc := scale_any A n c5 l B V wr ((hS.pu hPD).pu hPj) (by omega) hb (by omega) (by omega)
                have hPo := (hP.trans hPD).trans hPj
                have hVD : V = nval D := by rw [HVv.out, List.take_of_length_le (by have := HD.out; omega)]
                have HVD := Lib.hid hVD
                clear hcv hVD hPD hPj hP
                go_wp2_with fail
                refine hsc.mono ?_
                rintro e w6 ⟨A6, c6, o, rfl, hc6, hS6, hb6, hv6, hB6, p6⟩
                have Hv6 := Lib.hid hv6
                have hB7 := hB6.le (PW.trans hPo).size
                clear hB6
                clear hv6 hsc
                go_wp2_with fail
                refine (trim_any A6 (n + 1) c6 o _ hS6 (by omega) hc6).mono ?_
                rintro e w7 ⟨rfl, rfl⟩
                have hT6 := tidied_Sl hS6
                have hP6 := hPo.trans p6
                have hpo : pval 4294967296 (tidied o) = nval (R.take (k + j)) := by
                  rw [tidied_val, Hv6.out, HV.out, HB.out, HVD.out, HEn.out]
                have Hpo := Lib.hid hpo
                have HT6 := Lib.hid hT6
                clear hpo hT6 hS6 hPo p6
                go_wp2
                go_roundw
                case rel => exact ⟨k + j, (tidied o).length, c6, A6, tidied o, hkN, by rw [HEd.out], rfl, HT6.out, tidied_below hb6, tidied_tidy o, hc6, hB7, Hpo.out, hP6⟩
                case measure =>
                  rw [Lib.strSize_string, Lib.strSize_string]
                  have := HEl.out
                  simp [ByteArray.size]
                  omega
    · have hp : pcode s = 10 := by rw [Hpc.out, if_neg hlen, if_neg hgood]
      have Hp := Lib.hid hp
      clear hp
      have Hf := Lib.hid (fun W (h : Pu w W) => Bad.out 10 W (by decide) Hp.out h)
      have hE : R = [] ∨ (R ≠ [] ∧ Lib.trimS R [48, 49, 50, 51, 52, 53, 54, 55, 56, 57] ≠ []) ∨ (R ≠ [] ∧ Lib.trimS R [48, 49, 50, 51, 52, 53, 54, 55, 56, 57] = [] ∧ R[0]? = some 48 ∧ (1 < R.length ∨ ¬ 1 < R.length ∧ g = true)) := by
        by_cases e1 : R = []
        · exact .inl e1
        · by_cases e2 : Lib.trimS R [48, 49, 50, 51, 52, 53, 54, 55, 56, 57] = []
          · refine .inr (.inr ⟨e1, e2, ?_⟩)
            rw [trimS_nil] at e2
            have e3 : R.all isDig = true := by
              rw [List.all_eq_true] at e2 ⊢
              intro x hx
              rw [← digits_contains]
              exact e2 x hx
            unfold goodDigs at hgood
            rw [e3] at hgood
            have e4 : R.isEmpty = false := by simp [e1]
            rw [e4] at hgood
            simp at hgood
            rw [List.head?_eq_getElem?] at hgood
            exact ⟨hgood.1, by
              rcases Nat.lt_or_ge 1 R.length with h | h
              · exact .inl h
              · exact .inr ⟨by omega, hgood.2 (by omega)⟩⟩
          · exact .inr (.inl ⟨e1, e2⟩)
      clear hgood hW
      rcases hE with rfl | ⟨hne, ht⟩ | ⟨hne, ht, h0, hor⟩
      · go_enter Tryd.func16, Tryd.ntmps16
        go_wp2_with fail
        refine hcut.mono ?_
        rintro e w1 ⟨rfl, rfl⟩
        have c0 : (w.alloc (.cells #[.bool false, .slice none 0 0] 25)).cell? ⟨w.heap.size, 0, none⟩ = some (.bool false) := kA.cell 0
        have c1 : (w.alloc (.cells #[.bool false, .slice none 0 0] 25)).cell? ⟨w.heap.size, 1, none⟩ = some (.slice none 0 0) := kA.cell 1
        have PW : Pu w (w.alloc (.cells #[.bool false, .slice none 0 0] 25)) := (Pu.refl w).alloc _
        go_wp2
        refine bodyPost_ret (v := .tuple #[.agg #[.bool false, .slice none 0 0], .int .i64 10]) (by simp [results, Tryd.results16, go_sem, c0, c1]) rfl ⟨_, by rw [Hp.out]; rfl, Hf.out _ PW, Bey.mk (Beyond.none _), PW⟩
      · go_enter Tryd.func16, Tryd.ntmps16
        go_wp2_with fail
        refine hcut.mono ?_
        rintro e w1 ⟨rfl, rfl⟩
        go_wp2_with fail
        refine htr.mono ?_
        rintro e w2 ⟨rfl, p2⟩
        have kA2 := kA.pu p2
        have PW : Pu w w2 := ((Pu.refl w).alloc _).trans p2
        have c0 : w2.cell? ⟨w.heap.size, 0, none⟩ = some (.bool false) := kA2.cell 0
        have c1 : w2.cell? ⟨w.heap.size, 1, none⟩ = some (.slice none 0 0) := kA2.cell 1
        have f0 := kA2.frozen 0
        have f1 := kA2.frozen 1
        obtain ⟨r0, r1, _, rp⟩ := store_num kA2 false none 0 0
        have PW' := rp _ PW (Nat.le_refl _)
        go_wp2
        refine bodyPost_ret (v := .tuple #[.agg #[.bool false, .slice none 0 0], .int .i64 10]) (by simp [results, Tryd.results16, go_sem, r0, r1]) rfl ⟨_, by rw [Hp.out]; rfl, Hf.out _ PW', Bey.mk (Beyond.none _), PW'⟩
      · have hix : ∀ W : World, (Instr.index 9 (.string ⟨R.toArray⟩) (.int .i64 0)).run Tryd.prog W = .ok (.int .u8 48) W := fun W => index_str R 0 48 h0 Tryd.underlying9 W
        rw [ht] at htr
        have hor2 : (decide ((R.length : Int) > 1) = true ∧ decide ((1 : Int) < (R.length : Int)) = true) ∨ (decide ((R.length : Int) > 1) = false ∧ decide ((1 : Int) < (R.length : Int)) = false ∧ g = true) := by
          rcases hor with h5 | ⟨h5, h6⟩
          · exact .inl ⟨by simp; omega, by simp; omega⟩
          · exact .inr ⟨by simp; omega, by simp; omega, h6⟩
        clear hor
        rcases hor2 with ⟨d5, d6⟩ | ⟨d5, d6, rfl⟩
        all_goals
          go_enter Tryd.func16, Tryd.ntmps16
          go_wp2_with fail
          refine hcut.mono ?_
          rintro e w1 ⟨rfl, rfl⟩
          go_wp2_with fail
          refine htr.mono ?_
          rintro e w2 ⟨rfl, p2⟩
          have kA2 := kA.pu p2
          have PW : Pu w w2 := ((Pu.refl w).alloc _).trans p2
          have c0 : w2.cell? ⟨w.heap.size, 0, none⟩ = some (.bool false) := kA2.cell 0
          have c1 : w2.cell? ⟨w.heap.size, 1, none⟩ = some (.slice none 0 0) := kA2.cell 1
          have f0 := kA2.frozen 0
          have f1 := kA2.frozen 1
          obtain ⟨r0, r1, _, rp⟩ := store_num kA2 false none 0 0
          have PW' := rp _ PW (Nat.le_refl _)
          go_wp2
          refine bodyPost_ret (v := .tuple #[.agg #[.bool false, .slice none 0 0], .int .i64 10]) (by simp [results, Tryd.results16, go_sem, r0, r1]) rfl ⟨_, by rw [Hp.out]; rfl, Hf.out _ PW', Bey.mk (Beyond.none _), PW'⟩
theorem parse_any (s : List UInt8) (w : World) :
    Calls Tryd.prog 16 #[.string ⟨s.toArray⟩] w fun e w' => ∃ v, e = .returned (.tuple #[v, .int .i64 ((pcode s : Nat) : Int)]) ∧ ZR w' v (pres s) ∧ Pu w w' :=
  (parse_new s w).mono fun _ _ ⟨v, h1, h2, _, h3⟩ => ⟨v, h1, h2, h3⟩
end Go.Proofs.YtckfnbckoclhpaaDoor
