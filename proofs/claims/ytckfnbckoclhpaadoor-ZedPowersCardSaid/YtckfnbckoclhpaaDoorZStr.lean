/- zed: String: the digits. -/
import Derived.Test.YtckfnbckoclhpaaDoorZed6
import Derived.Test.YtckfnbckoclhpaaDoorShelf
import Derived.Test.YtckfnbckoclhpaaDoorZStr0
import Derived.Deep.LoopGhost
import Derived.Lib.ConvBytes
import Derived.Laws.BytesString
set_option linter.unusedVariables false
namespace Go.Proofs.YtckfnbckoclhpaaDoor
open Go.RowKit

theorem eiByte : ElemI Tryd.prog 74 5 (.int .u8 0) 1 1 := ⟨Tryd.underlying74, by kernel_rfl, rfl, by decide⟩
/-- words in memory, in blocks of words -/
def SlU (w : World) (A : Option Addr) (n c : Nat) (q : List Nat) : Prop := Sl w 1 A n c (wds q) ∧ ∀ b off, A = some ⟨b, off, none⟩ → ∃ cs, Blk w b 67 cs
theorem SlU.push {w w' : World} {A : Option Addr} {n c : Nat} {q : List Nat} {base k : Nat} {v : Value} {xs : List Value} (h : SlU w A n c q) (ho : w.ownsRow base 5 1 v k xs) (hg : w.grownBy w' v.ownBlock) : SlU w' A n c q := by
  have key : ∀ b off, A = some ⟨b, off, none⟩ → v.ownBlock ≠ some b := fun b off e => by
    obtain ⟨cs, hb⟩ := h.2 b off e
    exact own_ne ho hb (by decide)
  refine ⟨h.1.fr (Fr.of_grown hg) (fun _ b off e e2 => key b off e e2), fun b off e => ?_⟩
  obtain ⟨cs, hb⟩ := h.2 b off e
  exact ⟨cs, hb.fr (Fr.of_grown hg) (key b off e)⟩

theorem pow_left {a b : Nat} (h : a ≤ b) (n : Nat) : a ^ n ≤ b ^ n := Nat.pow_le_pow_left h n
theorem pow_pow (a b n : Nat) : (a ^ b) ^ n = a ^ (b * n) := (Nat.pow_mul a b n).symm
theorem pow_cmp {a b c d : Nat} (h : a ^ b < c ^ d) {n : Nat} (hc : c ^ d ≤ a ^ n) (ha : 1 < a) : b < n := (Nat.pow_lt_pow_iff_right ha).1 (Nat.lt_of_lt_of_le h hc)
theorem ten_lt' (N : Nat) {L P : Nat} (h : 10 ^ L ≤ P) (hP : P < 4294967296 ^ N) : L < 10 * N := by
  refine pow_cmp (a := 10) (b := L) (c := 4294967296) (d := N) (Nat.lt_of_le_of_lt h hP) ?_ (by omega)
  rw [← pow_pow]
  exact pow_left (by omega) N
theorem ten_lt {L P : Nat} (h : 10 ^ L ≤ P) (hP : P < 4294967296 ^ 1000) : L < 10000 := ten_lt' 1000 h hP

set_option maxHeartbeats 1500000 in
set_option maxRecDepth 100000 in
theorem string_any (v : Value) (z : Int) (w : World) (h : ZR w v z) (hz : z.natAbs < 4294967296 ^ 1000) :
    Calls Tryd.prog 19 #[v] w fun e w' => e = .returned (.string ⟨(ztext z).toArray⟩) ∧ Pu w w' := by
  obtain ⟨g, A, n, c, l, rfl, hs, hb, ht, hg, hc, rfl⟩ := h
  rw [sgn_abs] at hz
  have hn := tidy_len ht hz
  have hl := hs.wlen
  have hW : Pu w (w.alloc (.cells #[.bool g, .slice A n c] 25)) := (Pu.refl w).alloc _
  have hS := hs.pu hW
  rcases Decidable.em (l = []) with e | hne
  · subst e
    obtain rfl : n = 0 := by simpa using hl.symm
    have e0 : ztext (sgn g (pval 4294967296 [])) = [48] := by
      rw [show pval 4294967296 [] = 0 from rfl, sgn_zero]
      rfl
    rw [e0]
    go_enter Tryd.func19, Tryd.ntmps19
    go_wp2
    go_ret
    exact ⟨rfl, hW⟩
  · have hn0 : n ≠ 0 := fun e => hne (List.eq_nil_of_length_eq_zero (by omega))
    have e0 : ((n : Int) == 0) = false := by simp; omega
    have kA : Blk (w.alloc (.cells #[.bool g, .slice A n c] 25)) w.heap.size 25 #[.bool g, .slice A n c] := Blk.new _ _ _
    go_enter Tryd.func19, Tryd.ntmps19
    go_wp2_with fail
    go_loopg [3, 4] (pval 4294967296 l) (fun k ov mv wr => ∃ (A1 : Option Addr) (n1 c1 : Nat) (ds : List Nat) (A2 : Option Addr) (n2 c2 : Nat) (m : List Nat), ov = .slice A1 n1 c1 ∧ mv = .slice A2 n2 c2 ∧ wr.ownsRow (w.heap.size + 1) 5 1 (.slice A1 n1 c1) n1 (dbs ds) ∧ Sl wr 1 A2 n2 c2 (wds m) ∧ n2 ≤ 1000 ∧ Below_ 10 ds ∧ Below_ 4294967296 m ∧ Tidy m ∧ pval 10 ds + 10 ^ ds.length * pval 4294967296 m = pval 4294967296 l ∧ pval 4294967296 m ≤ k ∧ ds.length < 10010 ∧ Pu (w.alloc (.cells #[.bool g, .slice A n c] 25)) wr)
    case atStart => exact ⟨none, 0, 0, [], A, n, c, l, rfl, rfl, World.ownsRow_nil _ _ _ _, hS, by omega, Below_.nil _, hb, ht, by simp [pval], Nat.le_refl _, by simp, Pu.refl _⟩
    case round =>
      obtain ⟨A1, n1, c1, ds, A2, n2, c2, m, rfl, rfl, ho, hSm, hn2, hds, hbm, htm, hv, hk, hld0, hP⟩ := hrel
      have HV := Lib.hid hv
      clear hv
      have hlm := hSm.wlen
      have hld : ds.length = n1 := by have := ho.1; simpa using this
      by_cases hm0 : n2 = 0
      · obtain rfl : m = [] := List.eq_nil_of_length_eq_zero (by omega)
        subst hm0
        have hd0 : pval 10 ds = pval 4294967296 l := by simpa [pval] using HV.out
        have hpl := pval_pos ht hne
        have hdne : ds ≠ [] := fun e => by rw [e] at hd0; simp [pval] at hd0; omega
        have hn1 : 0 < n1 := by rw [← hld]; exact List.length_pos_iff.2 hdne
        have hcv := conv_row (P := Tryd.prog) (src := 74) (dst := 9) (c := c1) (ds.map dby) Tryd.underlying74 Tryd.underlying5 Tryd.underlying9 (by rw [← dbs_enc hds]; exact Sl.of_own ho) hn1
        have e1 : Lib.trimRightB ((ds.map dby).toArray.toList) 48 = (digs (pval 4294967296 l)).map dby := by
          rw [List.toList_toArray, trim_dby hds, digs_eq (tidied_below hds) (tidied_tidy ds), tidied_val, hd0]
        have htr : Calls Tryd.prog 49 #[.string ⟨(ds.map dby).toArray⟩, .string ⟨#[48]⟩] wr fun e w' => e = .returned (.string ⟨((digs (pval 4294967296 l)).map dby).toArray⟩) ∧ w' = wr := by
          rw [← e1]
          exact Tryd.strings_TrimRight_one ⟨(ds.map dby).toArray⟩ 48 (by decide) wr (by simp [ByteArray.size]; omega)
        clear e1
        have hDp : 0 < ((digs (pval 4294967296 l)).map dby).length := by
          rw [List.length_map, digs_pos (by omega)]
          simp
        have hDl : ((digs (pval 4294967296 l)).map dby).length ≤ 10010 := by
          have h1 := tidied_len ds
          have h2 : tidied ds = digs (pval 4294967296 l) := by rw [digs_eq (tidied_below hds) (tidied_tidy ds), tidied_val, hd0]
          rw [h2] at h1
          rw [List.length_map]
          omega
        have hz0 := ztext_pos (g := g) (V := pval 4294967296 l) (by omega)
        have hz1 : ztext (sgn g (pval 4294967296 l)) = (if g then [45] else []) ++ ((digs (pval 4294967296 l)).map dby).reverse := by
          rw [← List.map_reverse]
          exact hz0
        clear hz0
        have kA1 := kA.pu hP
        have c0 : wr.cell? ⟨w.heap.size, 0, none⟩ = some (.bool g) := kA1.cell 0
        have Hz1 := Lib.hid hz1
        have HP := Lib.hid (hW.trans hP)
        clear hz1 hd0 hpl hdne ho hP hSm hds HV hbm htm hk hs hS hb ht hg kA kA1 hW hne hn1 hld
        have fin : ∀ S : List UInt8, S.reverse = ztext (sgn g (pval 4294967296 l)) → 0 < S.length → S.length ≤ 20000 → ∃ N c W, (convert 9 74 (.string ⟨S.toArray⟩)).run Tryd.prog wr = .ok (.slice (some ⟨wr.heap.size, 0, none⟩) N c) W ∧
            Calls Tryd.prog 50 #[.slice (some ⟨wr.heap.size, 0, none⟩) N c] W fun e w' => e = .returned (.tuple #[]) ∧ (convert 74 9 (.slice (some ⟨wr.heap.size, 0, none⟩) N c)).run Tryd.prog w' = .ok (.string ⟨(ztext (sgn g (pval 4294967296 l))).toArray⟩) w' ∧ Pu wr w' := by
          intro S hS hS0 hS1
          obtain ⟨c5, W5, h5, hc5, hW5⟩ := bytes_run (P := Tryd.prog) (src := 9) (dst := 74) wr S Tryd.underlying9 Tryd.underlying74 Tryd.underlying5
          refine ⟨S.length, c5, W5, h5, ?_⟩
          have hH : Sort.Holds encB W5 wr.heap.size 0 S.toArray := by rw [hW5]; exact bytes_holds _ _ _
          refine (AnyE.slices_Reverse Tryd.laysRev encB (fun _ => rfl) wr.heap.size 0 c5 S W5 hH (by omega)).mono ?_
          rintro e w6 ⟨rfl, n6, h6⟩
          rw [hW5] at h6
          obtain ⟨hs6, hp6⟩ := rev_sl c5 h6 hc5
          refine ⟨rfl, ?_, hp6⟩
          rw [← hS]
          exact conv_row S.reverse Tryd.underlying74 Tryd.underlying5 Tryd.underlying9 hs6 hS0
        have Fin := Lib.hid fin
        clear fin
        generalize (digs (pval 4294967296 l)).map dby = D at *
        have hDs : (⟨D.toArray⟩ : ByteArray).size + (⟨#[45]⟩ : ByteArray).size ≤ 9223372036854775807 := by simp [ByteArray.size]; omega
        have hD45 : (⟨D.toArray⟩ : ByteArray) ++ (⟨#[45]⟩ : ByteArray) = ⟨(D ++ [45]).toArray⟩ := str_snoc D [45]
        cases g
        · obtain ⟨N5, c5, W5, hcv5, hrev⟩ := Fin.out D (by rw [Hz1.out]; rfl) hDp (by omega)
          have Hrev := Lib.hid hrev
          clear hrev
          go_wp2_with fail
          refine htr.mono ?_
          rintro e w2 ⟨rfl, rfl⟩
          go_wp2_with fail
          refine Hrev.out.mono ?_
          rintro e w3 ⟨rfl, hcv6, hp6⟩
          have hp7 := HP.out.trans hp6
          go_wp2
          go_ret
          exact ⟨rfl, hp7⟩
        · obtain ⟨S5, hS5⟩ : ∃ S5, S5 = D ++ [45] := ⟨_, rfl⟩
          obtain ⟨N5, c5, W5, hcv5, hrev⟩ := Fin.out S5 (by rw [Hz1.out, hS5]; simp) (by rw [hS5]; simp) (by rw [hS5]; simp; omega)
          rw [← hS5] at hD45
          clear hS5 Fin Hz1
          have Hrev := Lib.hid hrev
          clear hrev
          go_wp2_with fail
          refine htr.mono ?_
          rintro e w2 ⟨rfl, rfl⟩
          go_wp2_with fail
          refine Hrev.out.mono ?_
          rintro e w3 ⟨rfl, hcv6, hp6⟩
          have hp7 := HP.out.trans hp6
          go_wp2
          go_ret
          exact ⟨rfl, hp7⟩
      · have d1 : decide ((n2 : Int) > 0) = true := by simp; omega
        have d2 : decide ((0 : Int) < (n2 : Int)) = true := by simp; omega
        have hpm := pval_pos htm (fun e => by rw [e] at hlm; simp at hlm; omega)
        have hL := ten_lt (L := ds.length) (P := pval 4294967296 l) (by
          have : 10 ^ ds.length * 1 ≤ 10 ^ ds.length * pval 4294967296 m := Nat.mul_le_mul_left _ hpm
          have := HV.out
          omega) hz
        go_wp2_with fail
        refine (short_any A2 n2 c2 m 1000000000 _ hSm (by omega) hbm (by omega) (by omega)).mono ?_
        rintro e w1 ⟨A3, n3, c3, q, rfl, hn3, hc3, hS3, hb3, ht3, hq3, p3, hu3⟩
        have hU3 : SlU w1 A3 n3 c3 q := ⟨hS3, hu3⟩
        clear hu3
        go_wp2_with fail
        have hM := Nat.div_add_mod (pval 4294967296 m) 1000000000
        have hr0 := Nat.mod_lt (pval 4294967296 m) (show 1000000000 > 0 by omega)
        have hlt : pval 4294967296 q < pval 4294967296 m := by rw [hq3]; exact Nat.div_lt_self hpm (by omega)
        rw [← hq3] at hM
        have hv2 : pval 10 ds + 10 ^ ds.length * (pval 4294967296 m % 1000000000 + 10 ^ 9 * pval 4294967296 q) = pval 4294967296 l := by
          rw [← HV.out]
          congr 2
          rw [show (10 : Nat) ^ 9 = 1000000000 from rfl]
          omega
        have ho1 := own_pu ho p3
        have hP1 := hP.trans p3
        clear hq3 hM ho hP hSm
        obtain ⟨r0, hr00⟩ : ∃ r0, r0 = pval 4294967296 m % 1000000000 := ⟨_, rfl⟩
        have er0 : (pval 4294967296 m : Int) % 1000000000 = (r0 : Int) := by rw [hr00]; omega
        rw [← hr00] at hv2 hr0
        clear hr00
        have Hlt := Lib.hid hlt
        have Hv2 := Lib.hid hv2
        clear hlt hv2 HV
        rw [er0]
        clear er0
        go_loopw [3, 5, 22] (fun ov rv iv ws => ∃ (A1 : Option Addr) (n1 c1 : Nat) (ds2 : List Nat) (r i : Nat), i ≤ 9 ∧ ov = .slice A1 n1 c1 ∧ rv = .int .u64 (r : Int) ∧ iv = .int .i64 i ∧ ws.ownsRow (w.heap.size + 1) 5 1 (.slice A1 n1 c1) n1 (dbs ds2) ∧ ds2.length = ds.length + i ∧ r < 10 ^ (9 - i) ∧ Below_ 10 ds2 ∧ pval 10 ds2 + 10 ^ ds2.length * (r + 10 ^ (9 - i) * pval 4294967296 q) = pval 4294967296 l ∧ SlU ws A3 n3 c3 q ∧ Pu (w.alloc (.cells #[.bool g, .slice A n c] 25)) ws) (fun _ _ iv _ => 9 - (intOf iv).toNat)
        case atStart => exact ⟨A1, n1, c1, ds, r0, 0, by omega, rfl, rfl, rfl, ho1, rfl, hr0, hds, Hv2.out, hU3, hP1⟩
        case round =>
          clear ho1 hP1 Hv2 hr0 hU3 hS3
          obtain ⟨A4, n4, c4, ds2, r, i, hi, rfl, rfl, rfl, ho4, hl4, hr4, hb4, hv4, hU4, hP4⟩ := hrel
          have HV4 := Lib.hid hv4
          have HR4 := Lib.hid hr4
          clear hv4 hr4
          have hn4 : ds2.length = n4 := by have := ho4.1; simpa using this
          by_cases hi9 : i < 9
          · have em : (r : Int) % 10 = ((r % 10 : Nat) : Int) := by omega
            have ed : (r : Int) / 10 = ((r / 10 : Nat) : Int) := by omega
            have hd10 : r % 10 < 10 := Nat.mod_lt _ (by omega)
            have hsz4 : w.heap.size + 1 ≤ wr.heap.size := by simpa using hP4.size
            obtain ⟨K, hK⟩ : ∃ K, 10 ^ (9 - (i + 1)) = K := ⟨_, rfl⟩
            have hKi : 10 ^ (9 - i) = 10 * K := by rw [show 9 - i = (9 - (i + 1)) + 1 by omega, Nat.pow_succ, hK, Nat.mul_comm]
            have hr5 : r / 10 < K := by
              have := HR4.out
              rw [hKi] at this
              omega
            have hv5 : pval 10 (ds2 ++ [r % 10]) + 10 ^ (ds2 ++ [r % 10]).length * (r / 10 + K * pval 4294967296 q) = pval 4294967296 l := by
              rw [← HV4.out, pval_snoc, hKi, List.length_append, List.length_singleton, Nat.pow_succ, Nat.mul_assoc (10 ^ ds2.length), Nat.add_assoc, ← Nat.mul_add]
              congr 2
              rw [Nat.mul_add, Nat.mul_assoc]
              omega
            have Hr5 := Lib.hid hr5
            have Hv5 := Lib.hid hv5
            have HK := Lib.hid hK
            clear hr5 hv5 hK hKi
            have hix : ∀ W : World, (Instr.index 9 (.string ⟨#[48, 49, 50, 51, 52, 53, 54, 55, 56, 57]⟩) (.int .u64 ((r : Int) % 10))).run Tryd.prog W = .ok (.int .u8 ((48 + r % 10 : Nat) : Int)) W := by
              intro W
              rw [em]
              clear em
              generalize r % 10 = d at *
              have hcases : d = 0 ∨ d = 1 ∨ d = 2 ∨ d = 3 ∨ d = 4 ∨ d = 5 ∨ d = 6 ∨ d = 7 ∨ d = 8 ∨ d = 9 := by omega
              rcases hcases with hd | hd | hd | hd | hd | hd | hd | hd | hd | hd <;> subst hd <;> rfl
            have hrb : r < 10 ^ 9 := Nat.lt_of_lt_of_le HR4.out (Nat.pow_le_pow_right (by omega) (by omega))
            have Hd := Lib.hid hd10
            have Hed := Lib.hid ed
            clear em ed
            rw [show ((48 + r % 10 : Nat) : Int) = Int.ofNat (48 + r % 10) from rfl] at hix
            clear hd10
            go_wp2_with (at_builtin; refine wpList_push eiByte rfl (.tmp 24) (.tmp 28) rfl _ rfl (by simp [Value.oneCell']) rfl rfl ho4 (by simp [maxLen]; omega) (by omega) hsz4 ?_)
            intro A5 c5 w5 ho5 hg5
            have hP5 := hP4.grown hg5 (fun k hk => by have := (ho4.lt k hk).1; simpa using this)
            have hU5 := hU4.push ho4 hg5
            have ho6 : w5.ownsRow (w.heap.size + 1) 5 1 (.slice A5 (n4 + 1) c5) (n4 + 1) (dbs (ds2 ++ [r % 10])) := by
              show w5.ownsRow _ _ _ _ _ (List.map _ (_ ++ _))
              rw [List.map_append]
              exact ho5
            clear ho4 hg5 ho5 hix
            go_wp2
            go_roundw
            case rel => exact ⟨A5, n4 + 1, c5, ds2 ++ [r % 10], r / 10, i + 1, by omega, rfl, by rw [Hed.out], by go_num, ho6, by simp; omega, by rw [HK.out]; exact Hr5.out, hb4.snoc Hd.out, by rw [HK.out]; exact Hv5.out, hU5, hP5⟩
            case measure => simp [intOf]; omega
          · obtain rfl : i = 9 := by omega
            have hr0 : r = 0 := by have := HR4.out; simp at this; exact this
            have hv5 : pval 10 ds2 + 10 ^ ds2.length * pval 4294967296 q = pval 4294967296 l := by
              have := HV4.out
              rw [hr0] at this
              simpa using this
            have Hv5 := Lib.hid hv5
            clear hv5
            go_wp2
            go_roundg (pval 4294967296 q)
            case measure => have := Hlt.out; omega
            case rel => exact ⟨A4, n4, c4, ds2, A3, n3, c3, q, rfl, rfl, ho4, hU4.1, by omega, hb4, hb3, ht3, Hv5.out, Nat.le_refl _, by omega, hP4⟩
end Go.Proofs.YtckfnbckoclhpaaDoor
