/- A made sum, and its parts, as arguments hand them in. -/
import Derived.Test.YtckfnbckoclhpaaGreatDoorURr8
set_option linter.unusedVariables false
namespace Go.Proofs.YtckfnbckoclhpaaGreatDoor
open Go.ChangeShapes Go.WideShapes Go.ChangeAt Go.RowKit

section
variable {H : Type} {enc : TypeId × Value → H} {w : World} {base : Nat} {spare : Nat → Bool} {held : Bool}
theorem arg_parts {a : Option Addr} {n c : Nat} {d : DataW H} {p : List MemPlace} (h : DataW.Trod enc Tryz.prog w base spare held 47 (.slice a n c) d p) :
    n ≤ c ∧ ∃ ps, ps.length = n ∧ Sl w 2 a n c (cat partCells ps) ∧ PartsOk ps ∧ (n = 0 ∨ ∃ el sp, d = .slice el sp ∧ el.length = n) := by
  obtain ⟨fuel, hf⟩ := h
  obtain ⟨A, n', c', ps, e, h1, h2, h3, h4⟩ := open_parts hf
  simp [Value.cells] at e
  obtain ⟨rfl, rfl, rfl⟩ := e
  refine ⟨h1, ps, h2, h3, h4, ?_⟩
  rcases Go.Deep.open_slice Tryz.underlying47 hf with ⟨e, _⟩ | ⟨x, n', c', m, k, D, Pl, e, _, _, _, _, hx, _⟩
  · simp [Value.cells] at e
    exact .inl e.2.1
  · simp [Value.cells] at e
    obtain ⟨-, e2, -⟩ := e
    injection hx with hx _
    exact .inr ⟨_, _, hx, by simp [e2]⟩
set_option maxRecDepth 100000 in
theorem arg_sum {v : Value} {r : Reach} {b0 : Nat} {d : DataW H} {p : List MemPlace} (hval : Value.okWide Tryz.prog w r b0 49 v) (h : DataW.Trod enc Tryz.prog w base spare held 49 v d p) :
    ∃ A c ps z, v = .agg #[.slice A ps.length c, .int .i64 z] ∧ Sl w 2 A ps.length c (cat partCells ps) ∧ PartsOk ps ∧ -9223372036854775808 ≤ z ∧ z ≤ 9223372036854775807 := by
  obtain ⟨cs, rfl, hcs⟩ := okWide_struct Tryz.underlying49 hval
  have hc2 : Tryz.prog.cellsOf 49 = 2 := by kernel_rfl
  rw [hc2] at hcs
  obtain ⟨c0, c1, rfl⟩ : ∃ c0 c1, cs = #[c0, c1] := by
    match cs, hcs with
    | ⟨[c0, c1]⟩, _ => exact ⟨c0, c1, rfl⟩
  obtain ⟨fuel, hf⟩ := h
  have hcp : Tryz.prog.cellsOf 47 = 1 := by kernel_rfl
  have hci : Tryz.prog.cellsOf 3 = 1 := by kernel_rfl
  have hcells : (Value.agg #[c0, c1]).cells = #[c0, c1] := rfl
  obtain ⟨zs, k2, _, _, _, hzl, hgs⟩ := DataW.trod_struct Tryz.underlying49 hf
  have hz0 := hgs 0 _ rfl
  have hz1 := hgs 1 _ rfl
  change DataW.trod enc Tryz.prog w base spare held k2 47 (List.take (Tryz.prog.cellsOf 47) (List.drop 0 _)) = _ at hz0
  change DataW.trod enc Tryz.prog w base spare held k2 3 (List.take (Tryz.prog.cellsOf 3) (List.drop 1 _)) = _ at hz1
  rw [hcp, List.drop_zero] at hz0
  rw [hci] at hz1
  have hzs : zs.length = 2 := hzl
  obtain ⟨u0, hu0⟩ : ∃ y, zs[0]? = some y := ⟨_, List.getElem?_eq_getElem (by omega)⟩
  obtain ⟨u1, hu1⟩ : ∃ y, zs[1]? = some y := ⟨_, List.getElem?_eq_getElem (by omega)⟩
  rw [hu0] at hz0
  rw [hu1] at hz1
  obtain ⟨A, np, cp, ps, e0, hnc, hpl, hsl, hok⟩ := open_parts hz0
  obtain ⟨z, e1, _, hwz⟩ := DataW.trod_int Tryz.underlying3 hz1
  simp [Value.cells] at e0 e1
  subst e0 e1 hpl
  have hw := wf_i64 hwz
  exact ⟨A, cp, ps, z, rfl, hsl, hok, hw.1, hw.2⟩
end
end Go.Proofs.YtckfnbckoclhpaaGreatDoor
