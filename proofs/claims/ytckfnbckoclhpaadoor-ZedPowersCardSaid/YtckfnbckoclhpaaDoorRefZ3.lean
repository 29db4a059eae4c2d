/- The document's numbers: Text. -/
import Derived.Test.YtckfnbckoclhpaaDoorRefZ1
import Derived.Test.YtckfnbckoclhpaaDoorZed3
set_option linter.unusedVariables false
namespace Go.Proofs.YtckfnbckoclhpaaDoor
open Go.RowKit

set_option maxHeartbeats 1500000 in
set_option maxRecDepth 100000 in
theorem rtext_any (v : Value) (z : Int) (w : World) (h : RZ w v z) (hz : z.natAbs < 10 ^ 200) :
    Calls Tryd.prog 23 #[v] w fun e w' => e = .returned (.string ⟨(ztext z).toArray⟩) ∧ Pu w w' := by
  obtain ⟨A, n, c, l, rfl, hs, hb, ht, hv, hc, hI⟩ := h
  have hn := tidy_len10 ht (k := 200) (by rw [hv]; exact hz)
  have hl := hs.dlen
  rw [hl] at hn
  have hW : Pu w (w.alloc (.cells #[.int .i64 z.sign, .slice A n c] 39)) := (Pu.refl w).alloc _
  have kA : Blk (w.alloc (.cells #[.int .i64 z.sign, .slice A n c] 39)) w.heap.size 39 #[.int .i64 z.sign, .slice A n c] := Blk.new _ _ _
  have hS := hs.pu hW
  have hld := digs_eq hb ht
  rw [hv] at hld
  by_cases h0 : z = 0
  · subst h0
    go_enter Tryd.func23, Tryd.ntmps23
    go_wp2
    go_ret
    exact ⟨rfl, hW⟩
  · have htx : ∃ g : Bool, z.sign = (if g then -1 else 1) ∧ ztext z = (if g then [45] else []) ++ l.reverse.map dby := by
      rcases Int.lt_or_le z 0 with hneg | hpos
      · refine ⟨true, Int.sign_eq_neg_one_of_neg hneg, ?_⟩
        have := ztext_pos (g := true) (V := z.natAbs) (by omega)
        rw [← hld] at this
        rw [← this]
        congr 1
        simp
        omega
      · refine ⟨false, Int.sign_eq_one_of_pos (by omega), ?_⟩
        have := ztext_pos (g := false) (V := z.natAbs) (by omega)
        rw [← hld] at this
        rw [← this]
        congr 1
        simp
        omega
    obtain ⟨g, hsg, htx⟩ := htx
    obtain ⟨pre, hpre⟩ : ∃ pre : List UInt8, pre = (if g then [45] else []) := ⟨_, rfl⟩
    rw [← hpre] at htx
    have hpl : pre.length ≤ 1 := by rw [hpre]; cases g <;> simp
    have Htx := Lib.hid htx
    have Hpre := Lib.hid hpre
    rw [hsg] at kA hS hW
    have hw0 : IntKind.i64.wrap ((n : Int) - 1) = (n : Int) - 1 := IntWalk.i64_in _ (by omega)
    rw [hsg]
    clear htx hpre hld hs hsg hI hv hz h0
    cases g
    all_goals
      simp only [if_true, if_false, Bool.false_eq_true] at kA hS hW Hpre ⊢
      go_enter Tryd.func23, Tryd.ntmps23
      go_wp2_with fail
      go_loopw [3, 4] (fun sv iv ws => ∃ (j : Nat) (S : List UInt8), j ≤ n ∧ iv = .int .i64 ((j : Int) - 1) ∧ sv = .string ⟨S.toArray⟩ ∧ S = pre ++ (l.drop j).reverse.map dby ∧ Pu w ws ∧ Blk ws w.heap.size 39 _ ∧ Sl ws 1 A n c (dws l)) (fun _ iv _ => (intOf iv + 1).toNat)
      case atStart => exact ⟨n, pre, Nat.le_refl _, rfl, by rw [Hpre.out], by rw [List.drop_eq_nil_of_le (by omega)]; simp, hW, kA, hS⟩
      case round =>
        obtain ⟨j, S, hj, rfl, rfl, hSe, hP, kB, hS2⟩ := hrel
        have hSl : S.length ≤ 201 := by
          rw [hSe]
          simp
          omega
        have HSe := Lib.hid hSe
        clear hSe
        have b0 := kB.cell 0
        have b1 := kB.cell 1
        rcases j with _ | j
        · have ej : ((0 : Nat) : Int) - 1 = -1 := rfl
          rw [ej]
          have hfin : S = ztext z := by rw [HSe.out, Htx.out]; rfl
          have HF := Lib.hid hfin
          clear hfin
          go_wp2
          go_ret
          exact ⟨by rw [← HF.out]; rfl, hP⟩
        · obtain ⟨x, hx⟩ : ∃ x, l[j]? = some x := ⟨_, List.getElem?_eq_getElem (by omega)⟩
          have hx10 := hb x (List.mem_of_getElem? hx)
          obtain ⟨q1, o1, rfl, hq1, hcell⟩ := hS2.dat hx
          have Hx := Lib.hid hx
          clear hx
          have ej : ((j + 1 : Nat) : Int) - 1 = (j : Int) := by omega
          rw [ej]
          have hwj : IntKind.i64.wrap ((j : Int) - 1) = (j : Int) - 1 := IntWalk.i64_in _ (by omega)
          have hw1 : IntKind.i64.wrap (48 + (x : Int)) = 48 + (x : Int) := IntWalk.i64_in _ (by omega)
          have hw2 : IntKind.u8.wrap (48 + (x : Int)) = 48 + (x : Int) := by rw [IntKind.wrap_u8]; omega
          have hcv : (convert 74 9 (.slice (some ⟨wr.heap.size, 0, none⟩) 1 1)).run Tryd.prog (wr.alloc (.cells #[.int .u8 (48 + (x : Int))] 5)) = .ok (.string ⟨#[dby x]⟩) (wr.alloc (.cells #[.int .u8 (48 + (x : Int))] 5)) := by
            refine conv_row [dby x] Tryd.underlying74 Tryd.underlying5 Tryd.underlying9 ?_ (by omega)
            have := Sl.new wr 5 #[.int .u8 (48 + (x : Int))] 1 1 1 rfl (Nat.le_refl _)
            have e : (#[Value.int .u8 (48 + (x : Int))] : Array Value).toList = [dby x].map encB := by
              show [Value.int .u8 (48 + (x : Int))] = [Value.int .u8 ((dby x).toNat : Int)]
              rw [dby_nat hx10]
              rfl
            rw [e] at this
            exact this
          obtain ⟨T, hT⟩ : ∃ T, T = S ++ [dby x] := ⟨_, rfl⟩
          have hcat : (⟨S.toArray⟩ : ByteArray) ++ (⟨#[dby x]⟩ : ByteArray) = ⟨T.toArray⟩ := by rw [hT]; exact str_snoc S [dby x]
          have hsz : (⟨S.toArray⟩ : ByteArray).size + (⟨#[dby x]⟩ : ByteArray).size ≤ 9223372036854775807 := by simp [ByteArray.size]; omega
          have HT := Lib.hid hT
          have hPn : Pu w (wr.alloc (.cells #[.int .u8 (48 + (x : Int))] 5)) := hP.alloc _
          have kBn := kB.alloc (.cells #[.int .u8 (48 + (x : Int))] 5)
          have hSn := hS2.pu ((Pu.refl wr).alloc (.cells #[.int .u8 (48 + (x : Int))] 5))
          clear hT
          go_wp2
          go_roundw
          case rel => exact ⟨j, T, by omega, rfl, rfl, by
            rw [HT.out, HSe.out, drop_at Hx.out, List.reverse_cons, List.map_append, List.append_assoc]
            rfl, hPn, kBn, hSn⟩
          case measure => simp [intOf]
end Go.Proofs.YtckfnbckoclhpaaDoor
