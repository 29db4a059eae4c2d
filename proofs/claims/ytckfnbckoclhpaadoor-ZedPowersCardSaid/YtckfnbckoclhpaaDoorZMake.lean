/- zed: two words as one number of 64 bits: or. zed: arrays of words that a call makes and fills. -/
import Derived.Test.YtckfnbckoclhpaaDoorBase
import Derived.Laws.BitsAllLaws
import Derived.Test.YtckfnbckoclhpaaDoorZed3
import Derived.Laws.MakeOwn
set_option linter.unusedVariables false
namespace Go.Proofs.YtckfnbckoclhpaaDoor
open Go.RowKit
/- zed: two words as one number of 64 bits: or. -/
theorem lor_hi (a b : Nat) (h : a < 4294967296) : a ||| (b * 4294967296) = b * 4294967296 + a := by
  have e : (4294967296 : Nat) = 2 ^ 32 := rfl
  rw [e] at h ⊢
  rw [Nat.or_comm, ← Nat.shiftLeft_eq, Nat.shiftLeft_add_eq_or_of_lt h]
theorem or_hi (a b : Nat) (ha : a < 4294967296) (hb : b < 4294967296) : bits BinOp.or IntKind.u64 (a : Int) ((b : Int) * 4294967296) = (b : Int) * 4294967296 + (a : Int) := by
  have e : ((b : Int) * 4294967296) = ((b * 4294967296 : Nat) : Int) := by omega
  rw [e, u64_or_nat a (b * 4294967296) (by omega) (by omega), lor_hi a b ha]
  omega
theorem or_lo (a b : Nat) (ha : a < 4294967296) (hb : b < 4294967296) : bits BinOp.or IntKind.u64 ((b : Int) * 4294967296) (a : Int) = (b : Int) * 4294967296 + (a : Int) := by
  have e : ((b : Int) * 4294967296) = ((b * 4294967296 : Nat) : Int) := by omega
  rw [e, u64_or_nat (b * 4294967296) a (by omega) (by omega), Nat.or_comm, lor_hi a b ha]
  omega
theorem or_nought (a : Nat) (ha : a < 4294967296) : bits BinOp.or IntKind.u64 0 (a : Int) = (a : Int) := by
  have := or_lo a 0 ha (by omega)
  simpa using this
theorem u64_small {a : Nat} (h : a < 18446744073709551616) : IntKind.u64.wrap (a : Int) = (a : Int) := by rw [IntKind.wrap_u64]; omega
theorem u64_shl {a : Nat} (h : a < 4294967296) : IntKind.u64.wrap ((a : Int) * 4294967296) = (a : Int) * 4294967296 := by rw [IntKind.wrap_u64]; omega
theorem u32_low (a : Nat) : IntKind.u32.wrap (a : Int) = ((a % 4294967296 : Nat) : Int) := by rw [IntKind.wrap_u32]; omega
theorem u32_small {a : Nat} (h : a < 4294967296) : IntKind.u32.wrap (a : Int) = (a : Int) := by rw [IntKind.wrap_u32]; omega

/- zed: arrays of words that a call makes and fills. -/
theorem eiU32 : ElemI Tryd.prog 23 67 (.int .u32 0) 1 4 := ⟨Tryd.underlying23, by kernel_rfl, rfl, by decide⟩

/-- block g is just the words o -/
def WA (w : World) (g : Nat) (o : List Nat) : Prop := Blk w g 67 (wds o).toArray
section
variable {w w' : World} {g : Nat} {o : List Nat}
theorem WA.lt (h : WA w g o) : g < w.heap.size := Blk.lt h
theorem WA.cell (h : WA w g o) {j x : Nat} (hj : o[j]? = some x) : w.cell? ⟨g, j, none⟩ = some (.int .u32 (x : Int)) := by
  rw [Blk.cell h j, List.getElem?_toArray, List.getElem?_map, hj]
  rfl
theorem WA.frozen (h : WA w g o) (j : Nat) : w.frozen? ⟨g, j, none⟩ = false := Blk.frozen h j
theorem WA.set_ (h : WA w g o) (j y : Nat) : WA (w.setCell ⟨g, j, none⟩ (.int .u32 (y : Int))) g (o.set j y) := by
  have := Blk.set_ h j (.int .u32 (y : Int))
  have e : (wds o).toArray.setIfInBounds j (.int .u32 (y : Int)) = (wds (o.set j y)).toArray := by simp [List.map_set]
  rw [e] at this
  exact this
theorem WA.fr {S : Nat → Prop} (h : WA w g o) (hf : Fr S w w') (hg : ¬ S g) : WA w' g o := Blk.fr h hf hg
theorem WA.pu (h : WA w g o) (hf : Pu w w') : WA w' g o := Blk.pu h hf
theorem WA.drewN (h : WA w g o) (n : Nat) : WA (w.drewN n) g o := Blk.drewN h n
theorem WA.drew (h : WA w g o) : WA w.drew g o := Blk.drew h
theorem WA.sl (h : WA w g o) {n c : Nat} (hn : n ≤ o.length) (hc : n ≤ c) : Sl w 1 (some ⟨g, 0, none⟩) n c (wds (o.take n)) := by
  refine ⟨by simp; omega, hc, fun _ => ⟨g, 0, rfl, h.lt, fun j u hu => ?_⟩⟩
  rw [List.getElem?_map, List.getElem?_take] at hu
  split at hu
  · cases hj : o[j]? with
    | none => rw [hj] at hu; cases hu
    | some x =>
      rw [hj] at hu
      injection hu with hu
      rw [Nat.zero_add, h.cell hj, ← hu]
  · cases hu
end
theorem madeCells_wds (n : Nat) : madeCells (Value.int .u32 0).cells n = Array.replicate n (.int .u32 0) := by
  apply Array.ext
  · simp [madeCells]
  · intro i h1 h2
    simp [madeCells, Value.cells, Nat.mod_one]
/-- make([]uint32, n, m) -/
theorem run_make_words (n m : Nat) (hm : m ≤ 4000000) (hn : n ≤ m) (w : World) :
    (Instr.makeSlice 23 (.int .i64 (n : Int)) (.int .i64 (m : Int))).run Tryd.prog w = .ok (.slice (some ⟨w.heap.size, 0, none⟩) n m) (w.alloc (.cells (Array.replicate m (.int .u32 0)) 67)) := by
  obtain ⟨i, hi, hz, hsz, hby⟩ := info_parts eiU32.info
  have hr := run_make (P := Tryd.prog) w 23 67 i _ eiU32.under hi hz .i64 .i64 n m (by omega) (by omega) (by rw [hby]; omega) (by omega)
  simp only [Int.toNat_natCast] at hr
  rw [hsz, Nat.mul_one, madeCells_wds] at hr
  exact hr
theorem WA.made (w : World) (m : Nat) : WA (w.alloc (.cells (Array.replicate m (.int .u32 0)) 67)) w.heap.size (List.replicate m 0) := by
  have e : (wds (List.replicate m 0)).toArray = Array.replicate m (.int .u32 0) := by simp
  unfold WA
  rw [e]
  exact Blk.new w _ _
theorem WA.new (w : World) (o : List Nat) : WA (w.alloc (.cells (wds o).toArray 67)) w.heap.size o := Blk.new w _ _

/-- a list whose place ahead of k is written -/
theorem set_fill {j y : Nat} {qs : List Nat} : (List.replicate (j + 1) 0 ++ qs).set j y = List.replicate j 0 ++ y :: qs := by
  rw [List.replicate_succ', List.append_assoc, List.set_append_right _ _ (by simp)]
  simp
end Go.Proofs.YtckfnbckoclhpaaDoor
