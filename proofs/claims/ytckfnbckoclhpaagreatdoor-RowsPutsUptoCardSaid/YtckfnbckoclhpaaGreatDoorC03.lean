/- strings.Builder: copyCheck and WriteString at this dump. -/
import Derived.Test.YtckfnbckoclhpaaGreatDoorShelf
import Derived.Test.YtckfnbckoclhpaaGreatDoorC01
import Derived.Lib.Builder
namespace Go.Proofs.YtckfnbckoclhpaaGreatDoor
section
set_option linter.unusedVariables false
open Go.RowKit
theorem bld_info : (Tryz.prog.info? 147).map (fun i => i.size) = some 2 := by kernel_rfl
theorem bld_lies : liesAt Tryz.prog Tryz.prog.depth 147 (2 / Tryz.prog.cellsOf 147) 0 147 1 = true := by kernel_rfl
theorem byte_info : (Tryz.prog.info? 5).map (fun i => (i.zero, i.size, i.bytes)) = some (some (.int .u8 0), 1, 1) := by kernel_rfl
set_option maxHeartbeats 1000000 in
set_option maxRecDepth 100000 in
theorem bld_used (b : Nat) (w : World) (h0 : w.cell? ⟨b, 0, none⟩ = some (.pointer (some ⟨b, 0, none⟩))) :
    Calls Tryz.prog 101 #[.pointer (some ⟨b, 0, none⟩)] w fun e w' => e = .returned (.tuple #[]) ∧ w' = w := by
  obtain ⟨j, hj, _⟩ := Option.map_eq_some_iff.1 bld_info
  go_enter Tryz.func101, Tryz.ntmps101
  go_wp2
  rw [Lib.run_neq_ptr_same w _ Tryz.underlying145 hj]
  go_wp2
  go_end0
  exact ⟨rfl, rfl⟩
set_option maxHeartbeats 1000000 in
set_option maxRecDepth 100000 in
theorem bld_fresh (b : Nat) (w : World) (h0 : w.cell? ⟨b, 0, none⟩ = some (.pointer none)) (hsh : w.shape? b = some (147, 2)) (hfz : w.frozen? ⟨b, 0, none⟩ = false) :
    Calls Tryz.prog 101 #[.pointer (some ⟨b, 0, none⟩)] w fun e w' => e = .returned (.tuple #[]) ∧ w' = w.setCell ⟨b, 0, none⟩ (.pointer (some ⟨b, 0, none⟩)) := by
  obtain ⟨j, hj, hjs⟩ := Option.map_eq_some_iff.1 bld_info
  go_enter Tryz.func101, Tryz.ntmps101
  go_wp2
  rw [Lib.run_to_unsafe w ⟨b, 0, none⟩ Tryz.underlying145 Tryz.underlying228 hj (by rw [hjs]; decide) hsh (Nat.zero_lt_succ 1)]
  simp only [Result.andThen]
  rw [Oper.upon_value]
  go_wp2
  rw [run_callFunc_extern Tryz.func148 (by kernel_rfl) (by kernel_rfl) (by kernel_rfl) (e := Extern.AbiNoEscape.same) (by kernel_rfl)]
  rw [Lib.run_noEscape]
  simp only [Result.andThen]
  rw [Oper.upon_value]
  go_wp2
  rw [Lib.run_from_unsafe w ⟨b, 0, none⟩ Tryz.underlying228 Tryz.underlying145 hj hsh bld_lies]
  simp only [Result.andThen]
  rw [Oper.upon_value]
  go_wp2
  go_end0
  exact ⟨rfl, rfl⟩
def Bld (w : World) (b base : Nat) (l : List UInt8) : Prop :=
  ∃ p v, Blk w b 147 #[p, v] ∧ (p = .pointer none ∨ p = .pointer (some ⟨b, 0, none⟩)) ∧ w.ownsRow base 5 1 v l.length (Lib.byteCells l) ∧ b < base
theorem bcells_len (l : List UInt8) : (Lib.byteCells l).length = l.length := by simp [Lib.byteCells]
theorem own_bne {w : World} {base n : Nat} {v : Value} {xs : List Value} {e : TypeId} {k b : Nat} (h : w.ownsRow base e k v n xs) (hb : b < base) : v.ownBlock ≠ some b := fun e => by
  have := (h.lt b e).1
  omega
theorem Bld.fr {S : Nat → Prop} {w w' : World} {base b : Nat} {l : List UInt8} (h : Bld w b base l) (hf : Fr S w w') (h1 : ¬ S b) (h2 : ∀ g, base ≤ g → ¬ S g) : Bld w' b base l := by
  obtain ⟨p, v, k1, k2, k3, k4⟩ := h
  exact ⟨p, v, k1.fr hf h1, k2, own_fr k3 hf (fun g hg => h2 g (k3.lt g hg).1), k4⟩
theorem Bld.pu {w w' : World} {base b : Nat} {l : List UInt8} (h : Bld w b base l) (hf : Pu w w') : Bld w' b base l := h.fr hf (fun x => x) (fun _ _ x => x)
theorem Bld.is {w : World} {base b : Nat} {l : List UInt8} (h : Bld w b base l) : Lib.IsBuilder 147 5 b b (Lib.byteCells l) w := by
  obtain ⟨p, v, k1, k2, k3, k4⟩ := h
  have k3' : w.ownsRow b 5 1 v (Lib.byteCells l).length (Lib.byteCells l) := by rw [bcells_len]; exact own_base k3 (by omega)
  have k6 := own_bne k3 k4
  rcases k2 with rfl | rfl
  · exact .inl ⟨Nat.le_refl _, v, k1, k3', k6⟩
  · exact .inr ⟨Nat.le_refl _, v, k1, k3', k6⟩
theorem Bld.new {w : World} {b base : Nat} (h : Blk w b 147 #[.pointer none, .slice none 0 0]) (hb : b < base) : Bld w b base [] :=
  ⟨_, _, h, .inl rfl, World.ownsRow_nil _ _ _ _, hb⟩
theorem bld_check (base b : Nat) (l : List UInt8) (w : World) (h : Bld w b base l) :
    Calls Tryz.prog 101 #[.pointer (some ⟨b, 0, none⟩)] w fun e w' => e = .returned (.tuple #[]) ∧ Fr (fun j => j = b) w w' ∧ ∃ v, Blk w' b 147 #[.pointer (some ⟨b, 0, none⟩), v] ∧ w'.ownsRow base 5 1 v l.length (Lib.byteCells l) ∧ b < base := by
  obtain ⟨p, v, k1, k2, k3, k4⟩ := h
  rcases k2 with rfl | rfl
  · refine (bld_fresh b w (k1.cell 0) (by unfold Blk at k1; simp [World.shape?, k1]) (k1.frozen 0)).mono ?_
    rintro e w' ⟨rfl, rfl⟩
    exact ⟨rfl, Fr.one _ _ _ _, v, k1.set_ 0 _, own_fr k3 (Fr.one w b 0 (.pointer (some ⟨b, 0, none⟩))) (fun g hg e => own_bne k3 k4 (by rw [hg, e])), k4⟩
  · refine (bld_used b w (k1.cell 0)).mono ?_
    rintro e w' ⟨rfl, rfl⟩
    exact ⟨rfl, Fr.refl _ _, v, k1, k3, k4⟩
theorem strCells_list (l : List UInt8) : Lib.strCells ⟨l.toArray⟩ = Lib.byteCells l := by simp [Lib.strCells, Lib.byteCells]
set_option maxHeartbeats 2000000 in
set_option maxRecDepth 100000 in
theorem bld_write (base b : Nat) (l k : List UInt8) (w : World) (h : Bld w b base l) (hbase : base ≤ w.heap.size) (hlen : l.length + k.length ≤ 140737488355328) :
    Calls Tryz.prog 65 #[.pointer (some ⟨b, 0, none⟩), .string ⟨k.toArray⟩] w fun e w' => (∃ x y, e = .returned (.tuple #[x, y])) ∧ Bld w' b base (l ++ k) ∧ Fr (fun j => j = b ∨ base ≤ j) w w' := by
  obtain ⟨i0, hi, hz0, hz1, hz2⟩ := info_parts byte_info
  have hks : (⟨k.toArray⟩ : ByteArray).size = k.length := by simp [ByteArray.size]
  have hks2 : k.toArray.size = k.length := by simp
  go_enter Tryz.func65, Tryz.ntmps65
  go_wp2_with fail
  refine (bld_check base b l _ h).mono ?_
  rintro e w1 ⟨rfl, hf1, v, hbk, hown, hbb⟩
  have c0 := hbk.cell 0
  have c1 := hbk.cell 1
  have hs1 := hf1.size
  have Hks := Lib.hid hks
  have Hf1 := Lib.hid hf1
  clear hks hf1
  go_wp2_with (at_builtin; refine Lib.wpList_append_own_string _ rfl _ _ 74 9 rfl base 5 i0 Tryz.underlying74 Tryz.underlying9 hi hz0 hz1 hz2 _ _ _ rfl hown ⟨k.toArray⟩ rfl (by rw [Hks.out]; unfold maxLen; omega) (by rw [Hks.out]; omega) (by omega) ?_)
  intro v' w2 hown' hgrow hwh
  rw [strCells_list] at hown'
  have hne := own_bne hown hbb
  have hb2 : Blk w2 b 147 #[.pointer (some ⟨b, 0, none⟩), v] := (hgrow.block b hbk.lt (fun e => hne e.symm)).trans hbk
  have d0 := hb2.cell 0
  have d1 := hb2.cell 1
  have f1 := hb2.frozen 1
  obtain ⟨ao, n', cap, rfl⟩ : ∃ ao n' cap, v' = .slice ao n' cap := by
    rcases hown'.2 with ⟨hv, _⟩ | ⟨g, cap, cur, hv, _⟩
    · exact ⟨_, _, _, hv⟩
    · exact ⟨_, _, _, hv⟩
  have hF : Fr (fun j => j = b ∨ base ≤ j) w (w2.setCell ⟨b, 1, none⟩ (.slice ao n' cap)) := ((Hf1.out.mono (fun _ _ e => .inl e)).grown hgrow (fun j hj => .inl (.inr (hown.lt j hj).1))).setCell (.inl (.inl rfl)) _
  have hB : Bld (w2.setCell ⟨b, 1, none⟩ (.slice ao n' cap)) b base (l ++ k) := ⟨_, _, hb2.set_ 1 _, .inr rfl, by
    have h5 := own_fr hown' (Fr.one w2 b 1 (.slice ao n' cap)) (fun g hg e => own_bne hown' hbb (by rw [hg, e]))
    rw [List.length_append]
    simpa [Lib.byteCells] using h5, hbb⟩
  have HFin := Lib.hid (And.intro hF hB)
  clear hF hB c0 c1 hown' hown hgrow
  go_wp2
  go_ret2
  exact ⟨⟨_, _, rfl⟩, HFin.out.2, HFin.out.1⟩
end
end Go.Proofs.YtckfnbckoclhpaaGreatDoor
