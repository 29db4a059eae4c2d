/- zed: short. -/
import Derived.Test.YtckfnbckoclhpaaDoorZed3
import Derived.Test.YtckfnbckoclhpaaDoorZMake
set_option linter.unusedVariables false
namespace Go.Proofs.YtckfnbckoclhpaaDoor
open Go.RowKit

set_option maxHeartbeats 1000000 in
set_option maxRecDepth 100000 in
theorem short_any (A : Option Addr) (n c : Nat) (l : List Nat) (d : Nat) (w : World) (h : Sl w 1 A n c (wds l)) (hn : n ≤ 1000000) (hb : Below_ 4294967296 l) (hd : 0 < d) (hd2 : d < 4294967296) :
    Calls Tryd.prog 48 #[.slice A n c, .int .u64 (d : Int)] w fun e w' => ∃ A' n' c' q, e = .returned (.tuple #[.slice A' n' c', .int .u64 ((pval 4294967296 l % d : Nat) : Int)]) ∧ n' ≤ n ∧ c' ≤ maxLen ∧ Sl w' 1 A' n' c' (wds q) ∧ Below_ 4294967296 q ∧ Tidy q ∧ pval 4294967296 q = pval 4294967296 l / d ∧ Pu w w' ∧ (∀ b off, A' = some ⟨b, off, none⟩ → ∃ cs, Blk w' b 67 cs) := by
  have hl := h.wlen
  have hmk := fun W => run_make_words n n (by omega) (Nat.le_refl _) W
  have Hmk := Lib.hid hmk
  clear hmk
  have hW : Pu w (w.alloc (.cells (Array.replicate n (.int .u32 0)) 67)) := (Pu.refl w).alloc _
  have hA := WA.made w n
  go_enter Tryd.func48, Tryd.ntmps48
  go_wp2_with (simp only [Hmk.out])
  go_loopw [7, 8] (fun a v ws => ∃ (j rest : Nat) (qs : List Nat), j ≤ n ∧ v = .int .i64 ((j : Int) - 1) ∧ a = .int .u64 (rest : Int) ∧ rest < d ∧ Below_ 4294967296 qs ∧ j + qs.length = n ∧ pval 4294967296 (l.drop j) = pval 4294967296 qs * d + rest ∧ WA ws w.heap.size (List.replicate j 0 ++ qs) ∧ Pu w ws) (fun _ v _ => (intOf v + 1).toNat)
  case atStart => exact ⟨n, 0, [], Nat.le_refl _, rfl, rfl, hd, Below_.nil _, by simp, by rw [List.drop_eq_nil_of_le (by omega)]; simp [pval], by simpa using hA, hW⟩
  case round =>
    obtain ⟨j, rest, qs, hj, rfl, rfl, hr, hq, hlen, hv, hA, hP⟩ := hrel
    have HV := Lib.hid hv
    clear hv
    rcases j with _ | j
    · have hS : Sl wr 1 (some ⟨w.heap.size, 0, none⟩) n n (wds qs) := by
        have := hA.sl (n := n) (c := n) (by simp; omega) (Nat.le_refl _)
        rwa [List.replicate_zero, List.nil_append, List.take_of_length_le (by omega)] at this
      have hv0 : pval 4294967296 l = pval 4294967296 qs * d + rest := by simpa using HV.out
      have hdiv : pval 4294967296 l / d = pval 4294967296 qs := by
        rw [hv0, Nat.mul_comm, Nat.mul_add_div hd, Nat.div_eq_of_lt hr, Nat.add_zero]
      have hmod : pval 4294967296 l % d = rest := by
        rw [hv0, Nat.mul_comm, Nat.mul_add_mod, Nat.mod_eq_of_lt hr]
      have Hdiv := Lib.hid hdiv
      have Hmod := Lib.hid hmod
      have hT := tidied_Sl hS
      have hle := tidied_len qs
      have fin := Lib.hid (And.intro (tidied_below hq) (And.intro (tidied_tidy qs) (tidied_val 4294967296 qs)))
      have HT := Lib.hid hT
      clear hdiv hmod hv0 hT
      go_wp2_with fail
      refine (trim_any _ n n qs _ hS (by omega) (by simp [maxLen]; omega)).mono ?_
      rintro e w1 ⟨rfl, rfl⟩
      go_wp2
      go_ret2
      exact ⟨some ⟨w.heap.size, 0, none⟩, (tidied qs).length, n, tidied qs, by rw [Hmod.out]; rfl, by omega, by simp [maxLen]; omega, HT.out, fin.out.1, fin.out.2.1, by rw [Hdiv.out]; exact fin.out.2.2, hP, fun b off eb => by
        injection eb with eb
        injection eb with eb
        subst eb
        exact ⟨_, hA⟩⟩
    · obtain ⟨x, hx⟩ : ∃ x, l[j]? = some x := ⟨_, List.getElem?_eq_getElem (by omega)⟩
      have hxb := hb x (List.mem_of_getElem? hx)
      obtain ⟨b, o, ea, hbw, hc0⟩ := (h.pu hP).wat hx
      subst ea
      have Hx := Lib.hid hx
      clear hx
      have ej : ((j + 1 : Nat) : Int) - 1 = (j : Int) := by omega
      rw [ej]
      have hjn : j < n := by omega
      have hw1 : IntKind.i64.wrap ((j : Int) - 1) = (j : Int) - 1 := IntWalk.i64_in _ (by omega)
      have hsh := u64_shl (a := rest) (by omega)
      have hx64 := u64_small (a := x) (by omega)
      have ho := or_lo x rest hxb (by omega)
      have hg0 : wr.cell? ⟨w.heap.size, j, none⟩ = some (.int .u32 0) := by
        have := hA.cell (j := j) (x := 0) (by rw [List.getElem?_append_left (by simp)]; simp)
        simpa using this
      have hf0 := hA.frozen j
      have hd0 : ¬ ((d : Int) = 0) := by omega
      go_wp2
      have hlt : rest * 4294967296 + x < 4294967296 * d := by
        have : (rest + 1) * 4294967296 ≤ d * 4294967296 := Nat.mul_le_mul_right _ (by omega)
        omega
      have hy : (rest * 4294967296 + x) / d < 4294967296 := (Nat.div_lt_iff_lt_mul hd).2 hlt
      have hdm := Nat.div_add_mod (rest * 4294967296 + x) d
      have hml := Nat.mod_lt (rest * 4294967296 + x) hd
      have ec : ((rest * 4294967296 + x : Nat) : Int) = (rest : Int) * 4294967296 + (x : Int) := by omega
      have e1 : ((rest : Int) * 4294967296 + (x : Int)) % (d : Int) = (((rest * 4294967296 + x) % d : Nat) : Int) := by rw [← ec, Int.natCast_emod]
      have e2 : ((rest : Int) * 4294967296 + (x : Int)) / (d : Int) % 4294967296 = (((rest * 4294967296 + x) / d : Nat) : Int) := by
        rw [← ec, ← Int.natCast_ediv]
        clear hdm hml e1 ec
        generalize (rest * 4294967296 + x) / d = y at *
        omega
      rw [e1, e2]
      generalize (rest * 4294967296 + x) / d = y at *
      generalize (rest * 4294967296 + x) % d = r at *
      have hA2 := hA.set_ j y
      rw [set_fill] at hA2
      go_roundw
      case rel => exact ⟨j, r, y :: qs, by omega, rfl, rfl, hml, by
        intro u hu
        rcases List.mem_cons.1 hu with rfl | hu
        · exact hy
        · exact hq u hu, by simp; omega, by
        rw [drop_at Hx.out]
        simp only [pval]
        rw [HV.out, Nat.mul_add, Nat.add_mul, Nat.mul_assoc, Nat.mul_comm y d]
        omega, hA2, hP.setCell (Nat.le_refl _) _⟩
      case measure => simp [intOf]
end Go.Proofs.YtckfnbckoclhpaaDoor
