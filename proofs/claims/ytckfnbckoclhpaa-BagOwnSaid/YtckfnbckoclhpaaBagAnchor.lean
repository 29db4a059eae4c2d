/- The anchor of the bag's laws. -/
import Derived.Test.YtckfnbckoclhpaaSetI2
import Derived.Test.YtckfnbckoclhpaaCls2
set_option linter.unusedVariables false
namespace Go.Proofs.Ytckfnbckoclhpaa
open Go.RowKit

set_option maxRecDepth 100000 in
theorem anchor_any (w : World) : Calls Try.prog 9 #[] w fun e w' => e = .returned (.bool true) ∧ Pu w w' := by
  go_enter Try.func9, Try.ntmps9
  go_wp2_with fail
  have hW := (Pu.refl w).alloc (Obj.cells #[Value.int IntKind.i64 3, Value.int IntKind.i64 1, Value.int IntKind.i64 3] 3)
  refine (of_int _ 3 3 [3, 1, 3] _ (Sl.new w _ _ 1 3 3 rfl (by omega)) (by omega)).mono ?_
  rintro e w1 ⟨A1, n1, rfl, hn1, hs1, h1⟩
  have H1 := hW.trans h1
  rw [norm_313] at hs1
  obtain rfl : n1 = 2 := by have := hs1.1; simp at this; omega
  go_wp2_with fail
  refine (items_int A1 2 2 [1, 3] _ hs1 (by omega)).mono ?_
  rintro e w2 ⟨A2, c2, rfl, ho2, h2⟩
  have H2 := H1.trans h2
  go_wp2_with fail
  refine (new_in 4 _ (by omega)).mono ?_
  rintro e w3 ⟨b, rfl, hc3, h3⟩
  have H3 := H2.trans h3
  have hs3 := (Sl.of_own ho2).pu h3
  obtain ⟨g, off, u, rfl, hg, hu, hc0⟩ := hs3.at_ (j := 0) (by omega)
  obtain rfl : .int .i64 1 = u := by simpa using hu
  simp only [Nat.add_zero] at hc0
  clear hu
  go_wp2_with fail
  refine (join_in _ _ b 4 id 4 3 1 _ (by omega) (by omega) (by omega) hc3 (by omega) (by omega)).mono ?_
  rintro e w4 ⟨rfl, f4, hc4, hr4, hf4⟩
  have H4 := H3.step hf4 (fun i hi => Nat.le_trans H2.size hi.1)
  have R4 := Lib.hid hr4
  clear hr4
  go_wp2_with fail
  refine (join_in _ _ b 4 f4 _ 1 2 _ (by omega) (by decide) (by decide) hc4 (by omega) (by omega)).mono ?_
  rintro e w5 ⟨rfl, f5, hc5, hr5, hf5⟩
  have H5 := H4.step hf5 (fun i hi => Nat.le_trans H2.size hi.1)
  have R5 := Lib.hid hr5
  clear hr5
  go_wp2_with fail
  refine (find_in _ _ b 4 f5 _ 3 _ (by omega) hc5 (by omega)).mono ?_
  rintro e w6 ⟨rfl, f6, hc6, _, hf6⟩
  have H6 := H5.step hf6 (fun i hi => Nat.le_trans H2.size hi.1)
  have rid : ∀ i, rt id i = i := fun i => rt_fix rfl
  have e1 : rt f4 1 = 1 := by rw [R4.out]; simp only [rid]; rfl
  have e2 : rt f4 2 = 2 := by rw [R4.out]; simp only [rid]; rfl
  have e3 : rt f4 3 = 1 := by rw [R4.out]; simp only [rid]; rfl
  have e5 : rt f5 3 = 1 := by rw [R5.out, e1, e2, e3]; rfl
  have ec : jCnt (rt f4 1) (rt f4 2) (jCnt (rt id 3) (rt id 1) 4) = 2 := by rw [e1, e2]; simp only [rid]; rfl
  rw [ec] at hc6
  rw [e5]
  clear ec rid e1 e2 e3 e5
  go_wp2_with fail
  refine (count_any _ _ b 4 f6 _ _ hc6).mono ?_
  rintro e w7 ⟨rfl, rfl⟩
  go_wp2
  go_ret
  exact ⟨rfl, H6⟩
end Go.Proofs.Ytckfnbckoclhpaa
