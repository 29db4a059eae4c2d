/- zed: two words as one number of 64 bits: or. zed: arrays of words that a call makes and fills. zed: short. zed: bits.Add32, bits.Sub32; slices.Clone of words. zed: plus. zed: minus. zed: scale, shift. zed: back, guess. zed: take, give. zed: give; the sums behind a place of a long division. zed: divide by one word. zed: Mul. -/
import Derived.Test.YtckfnbckoclhpaaGreatDoorC01
import Derived.Laws.BitsAllLaws
import Derived.Test.YtckfnbckoclhpaaGreatDoorC02
import Derived.Laws.MakeOwn
import Derived.Lib.SliceRun
namespace Go.Proofs.YtckfnbckoclhpaaGreatDoor
section
set_option linter.unusedVariables false
open Go.RowKit
/- zed: two words as one number of 64 bits: or. -/
theorem lor_hi (a b : Nat) (h : a < 4294967296) : a ||| (b * 4294967296) = b * 4294967296 + a := by
  have e : (4294967296 : Nat) = 2 ^ 32 := rfl
  rw [e] at h ⊢
  rw [Nat.or_comm, ← Nat.shiftLeft_eq, Nat.shiftLeft_add_eq_or_of_lt h]
theorem or_hi (a b : Nat) (ha : a < 4294967296) (hb : b < 4294967296) : bits BinOp.or IntKind.u64 (a : Int) ((b : Int) * 4294967296) = (b : Int) * 4294967296 + (a : Int) := by
  have e : ((b : Int) * 4294967296) = ((b * 4294967296 : Nat) : Int) := by omega
  rw [e, u64_or_nat a (b * 4294967296) (by omega) (by omega), lor_hi a b ha]
  omega
theorem or_lo (a b : Nat) (ha : a < 4294967296) (hb : b < 4294967296) : bits BinOp.or IntKind.u64 ((b : Int) * 4294967296) (a : Int) = (b : Int) * 4294967296 + (a : Int) := by
  have e : ((b : Int) * 4294967296) = ((b * 4294967296 : Nat) : Int) := by omega
  rw [e, u64_or_nat (b * 4294967296) a (by omega) (by omega), Nat.or_comm, lor_hi a b ha]
  omega
theorem or_nought (a : Nat) (ha : a < 4294967296) : bits BinOp.or IntKind.u64 0 (a : Int) = (a : Int) := by
  have := or_lo a 0 ha (by omega)
  simpa using this
theorem u64_small {a : Nat} (h : a < 18446744073709551616) : IntKind.u64.wrap (a : Int) = (a : Int) := by rw [IntKind.wrap_u64]; omega
theorem u64_shl {a : Nat} (h : a < 4294967296) : IntKind.u64.wrap ((a : Int) * 4294967296) = (a : Int) * 4294967296 := by rw [IntKind.wrap_u64]; omega
theorem u32_low (a : Nat) : IntKind.u32.wrap (a : Int) = ((a % 4294967296 : Nat) : Int) := by rw [IntKind.wrap_u32]; omega
theorem u32_small {a : Nat} (h : a < 4294967296) : IntKind.u32.wrap (a : Int) = (a : Int) := by rw [IntKind.wrap_u32]; omega
/- zed: arrays of words that a call makes and fills. -/
theorem eiU32 : ElemI Tryz.prog 28 169 (.int .u32 0) 1 4 := ⟨Tryz.underlying28, by kernel_rfl, rfl, by decide⟩
def WA (w : World) (g : Nat) (o : List Nat) : Prop := Blk w g 169 (wds o).toArray
section
variable {w w' : World} {g : Nat} {o : List Nat}
theorem WA.lt (h : WA w g o) : g < w.heap.size := Blk.lt h
theorem WA.cell (h : WA w g o) {j x : Nat} (hj : o[j]? = some x) : w.cell? ⟨g, j, none⟩ = some (.int .u32 (x : Int)) := by
  rw [Blk.cell h j, List.getElem?_toArray, List.getElem?_map, hj]
  rfl
theorem WA.frozen (h : WA w g o) (j : Nat) : w.frozen? ⟨g, j, none⟩ = false := Blk.frozen h j
theorem WA.set_ (h : WA w g o) (j y : Nat) : WA (w.setCell ⟨g, j, none⟩ (.int .u32 (y : Int))) g (o.set j y) := by
  have := Blk.set_ h j (.int .u32 (y : Int))
  have e : (wds o).toArray.setIfInBounds j (.int .u32 (y : Int)) = (wds (o.set j y)).toArray := by simp [List.map_set]
  rw [e] at this
  exact this
theorem WA.fr {S : Nat → Prop} (h : WA w g o) (hf : Fr S w w') (hg : ¬ S g) : WA w' g o := Blk.fr h hf hg
theorem WA.pu (h : WA w g o) (hf : Pu w w') : WA w' g o := Blk.pu h hf
theorem WA.drewN (h : WA w g o) (n : Nat) : WA (w.drewN n) g o := Blk.drewN h n
theorem WA.drew (h : WA w g o) : WA w.drew g o := Blk.drew h
theorem WA.sl (h : WA w g o) {n c : Nat} (hn : n ≤ o.length) (hc : n ≤ c) : Sl w 1 (some ⟨g, 0, none⟩) n c (wds (o.take n)) := by
  refine ⟨by simp; omega, hc, fun _ => ⟨g, 0, rfl, h.lt, fun j u hu => ?_⟩⟩
  rw [List.getElem?_map, List.getElem?_take] at hu
  split at hu
  · cases hj : o[j]? with
    | none => rw [hj] at hu; cases hu
    | some x =>
      rw [hj] at hu
      injection hu with hu
      rw [Nat.zero_add, h.cell hj, ← hu]
  · cases hu
end
theorem madeCells_wds (n : Nat) : madeCells (Value.int .u32 0).cells n = Array.replicate n (.int .u32 0) := by
  apply Array.ext
  · simp [madeCells]
  · intro i h1 h2
    simp [madeCells, Value.cells, Nat.mod_one]
theorem run_make_words (n m : Nat) (hm : m ≤ 4000000) (hn : n ≤ m) (w : World) :
    (Instr.makeSlice 28 (.int .i64 (n : Int)) (.int .i64 (m : Int))).run Tryz.prog w = .ok (.slice (some ⟨w.heap.size, 0, none⟩) n m) (w.alloc (.cells (Array.replicate m (.int .u32 0)) 169)) := by
  obtain ⟨i, hi, hz, hsz, hby⟩ := info_parts eiU32.info
  have hr := run_make (P := Tryz.prog) w 28 169 i _ eiU32.under hi hz .i64 .i64 n m (by omega) (by omega) (by rw [hby]; omega) (by omega)
  simp only [Int.toNat_natCast] at hr
  rw [hsz, Nat.mul_one, madeCells_wds] at hr
  exact hr
theorem WA.made (w : World) (m : Nat) : WA (w.alloc (.cells (Array.replicate m (.int .u32 0)) 169)) w.heap.size (List.replicate m 0) := by
  have e : (wds (List.replicate m 0)).toArray = Array.replicate m (.int .u32 0) := by simp
  unfold WA
  rw [e]
  exact Blk.new w _ _
theorem WA.new (w : World) (o : List Nat) : WA (w.alloc (.cells (wds o).toArray 169)) w.heap.size o := Blk.new w _ _
theorem set_fill {j y : Nat} {qs : List Nat} : (List.replicate (j + 1) 0 ++ qs).set j y = List.replicate j 0 ++ y :: qs := by
  rw [List.replicate_succ', List.append_assoc, List.set_append_right _ _ (by simp)]
  simp
end
section
set_option linter.unusedVariables false
open Go.RowKit
set_option maxHeartbeats 1000000 in
set_option maxRecDepth 100000 in
theorem short_any (A : Option Addr) (n c : Nat) (l : List Nat) (d : Nat) (w : World) (h : Sl w 1 A n c (wds l)) (hn : n ≤ 1000000) (hb : Below_ 4294967296 l) (hd : 0 < d) (hd2 : d < 4294967296) :
    Calls Tryz.prog 90 #[.slice A n c, .int .u64 (d : Int)] w fun e w' => ∃ A' n' c' q, e = .returned (.tuple #[.slice A' n' c', .int .u64 ((pval 4294967296 l % d : Nat) : Int)]) ∧ n' ≤ n ∧ c' ≤ maxLen ∧ Sl w' 1 A' n' c' (wds q) ∧ Below_ 4294967296 q ∧ Tidy q ∧ pval 4294967296 q = pval 4294967296 l / d ∧ Pu w w' ∧ (∀ b off, A' = some ⟨b, off, none⟩ → ∃ cs, Blk w' b 169 cs) := by
  have hl := h.wlen
  have hmk := fun W => run_make_words n n (by omega) (Nat.le_refl _) W
  have Hmk := Lib.hid hmk
  clear hmk
  have hW : Pu w (w.alloc (.cells (Array.replicate n (.int .u32 0)) 169)) := (Pu.refl w).alloc _
  have hA := WA.made w n
  go_enter Tryz.func90, Tryz.ntmps90
  go_wp2_with (simp only [Hmk.out])
  go_loopw [7, 8] (fun a v ws => ∃ (j rest : Nat) (qs : List Nat), j ≤ n ∧ v = .int .i64 ((j : Int) - 1) ∧ a = .int .u64 (rest : Int) ∧ rest < d ∧ Below_ 4294967296 qs ∧ j + qs.length = n ∧ pval 4294967296 (l.drop j) = pval 4294967296 qs * d + rest ∧ WA ws w.heap.size (List.replicate j 0 ++ qs) ∧ Pu w ws) (fun _ v _ => (intOf v + 1).toNat)
  case atStart => exact ⟨n, 0, [], Nat.le_refl _, rfl, rfl, hd, Below_.nil _, by simp, by rw [List.drop_eq_nil_of_le (by omega)]; simp [pval], by simpa using hA, hW⟩
  case round =>
    obtain ⟨j, rest, qs, hj, rfl, rfl, hr, hq, hlen, hv, hA, hP⟩ := hrel
    have HV := Lib.hid hv
    clear hv
    rcases j with _ | j
    · have hS : Sl wr 1 (some ⟨w.heap.size, 0, none⟩) n n (wds qs) := by
        have := hA.sl (n := n) (c := n) (by simp; omega) (Nat.le_refl _)
        rwa [List.replicate_zero, List.nil_append, List.take_of_length_le (by omega)] at this
      have hv0 : pval 4294967296 l = pval 4294967296 qs * d + rest := by simpa using HV.out
      have hdiv : pval 4294967296 l / d = pval 4294967296 qs := by
        rw [hv0, Nat.mul_comm, Nat.mul_add_div hd, Nat.div_eq_of_lt hr, Nat.add_zero]
      have hmod : pval 4294967296 l % d = rest := by
        rw [hv0, Nat.mul_comm, Nat.mul_add_mod, Nat.mod_eq_of_lt hr]
      have Hdiv := Lib.hid hdiv
      have Hmod := Lib.hid hmod
      have hT := tidied_Sl hS
      have hle := tidied_len qs
      have fin := Lib.hid (And.intro (tidied_below hq) (And.intro (tidied_tidy qs) (tidied_val 4294967296 qs)))
      have HT := Lib.hid hT
      clear hdiv hmod hv0 hT
      go_wp2_with fail
      refine (trim_any _ n n qs _ hS (by omega) (by simp [maxLen]; omega)).mono ?_
      rintro e w1 ⟨rfl, rfl⟩
      go_wp2
      go_ret2
      exact ⟨some ⟨w.heap.size, 0, none⟩, (tidied qs).length, n, tidied qs, by rw [Hmod.out]; rfl, by omega, by simp [maxLen]; omega, HT.out, fin.out.1, fin.out.2.1, by rw [Hdiv.out]; exact fin.out.2.2, hP, fun b off eb => by
        injection eb with eb
        injection eb with eb
        subst eb
        exact ⟨_, hA⟩⟩
    · obtain ⟨x, hx⟩ : ∃ x, l[j]? = some x := ⟨_, List.getElem?_eq_getElem (by omega)⟩
      have hxb := hb x (List.mem_of_getElem? hx)
      obtain ⟨b, o, ea, hbw, hc0⟩ := (h.pu hP).wat hx
      subst ea
      have Hx := Lib.hid hx
      clear hx
      have ej : ((j + 1 : Nat) : Int) - 1 = (j : Int) := by omega
      rw [ej]
      have hjn : j < n := by omega
      have hw1 : IntKind.i64.wrap ((j : Int) - 1) = (j : Int) - 1 := IntWalk.i64_in _ (by omega)
      have hsh := u64_shl (a := rest) (by omega)
      have hx64 := u64_small (a := x) (by omega)
      have ho := or_lo x rest hxb (by omega)
      have hg0 : wr.cell? ⟨w.heap.size, j, none⟩ = some (.int .u32 0) := by
        have := hA.cell (j := j) (x := 0) (by rw [List.getElem?_append_left (by simp)]; simp)
        simpa using this
      have hf0 := hA.frozen j
      have hd0 : ¬ ((d : Int) = 0) := by omega
      go_wp2
      have hlt : rest * 4294967296 + x < 4294967296 * d := by
        have : (rest + 1) * 4294967296 ≤ d * 4294967296 := Nat.mul_le_mul_right _ (by omega)
        omega
      have hy : (rest * 4294967296 + x) / d < 4294967296 := (Nat.div_lt_iff_lt_mul hd).2 hlt
      have hdm := Nat.div_add_mod (rest * 4294967296 + x) d
      have hml := Nat.mod_lt (rest * 4294967296 + x) hd
      have ec : ((rest * 4294967296 + x : Nat) : Int) = (rest : Int) * 4294967296 + (x : Int) := by omega
      have e1 : ((rest : Int) * 4294967296 + (x : Int)) % (d : Int) = (((rest * 4294967296 + x) % d : Nat) : Int) := by rw [← ec, Int.natCast_emod]
      have e2 : ((rest : Int) * 4294967296 + (x : Int)) / (d : Int) % 4294967296 = (((rest * 4294967296 + x) / d : Nat) : Int) := by
        rw [← ec, ← Int.natCast_ediv]
        clear hdm hml e1 ec
        generalize (rest * 4294967296 + x) / d = y at *
        omega
      rw [e1, e2]
      generalize (rest * 4294967296 + x) / d = y at *
      generalize (rest * 4294967296 + x) % d = r at *
      have hA2 := hA.set_ j y
      rw [set_fill] at hA2
      go_roundw
      case rel => exact ⟨j, r, y :: qs, by omega, rfl, rfl, hml, by
        intro u hu
        rcases List.mem_cons.1 hu with rfl | hu
        · exact hy
        · exact hq u hu, by simp; omega, by
        rw [drop_at Hx.out]
        simp only [pval]
        rw [HV.out, Nat.mul_add, Nat.add_mul, Nat.mul_assoc, Nat.mul_comm y d]
        omega, hA2, hP.setCell (Nat.le_refl _) _⟩
      case measure => simp [intOf]
end
section
set_option linter.unusedVariables false
open Go.RowKit
theorem add32_any (x y c : Nat) (w : World) (hx : x < 4294967296) (hy : y < 4294967296) (hc : c ≤ 1) :
    Calls Tryz.prog 161 #[.int .u32 (x : Int), .int .u32 (y : Int), .int .u32 (c : Int)] w fun e w' => e = .returned (.tuple #[.int .u32 (((x + y + c) % 4294967296 : Nat) : Int), .int .u32 (((x + y + c) / 4294967296 : Nat) : Int)]) ∧ w = w' := by
  have h1 := u64_small (a := x) (by omega)
  have h2 := u64_small (a := y) (by omega)
  have h3 := u64_small (a := c) (by omega)
  have h4 : IntKind.u64.wrap ((x : Int) + (y : Int)) = (x : Int) + (y : Int) := by rw [IntKind.wrap_u64]; omega
  have h5 : IntKind.u64.wrap ((x : Int) + (y : Int) + (c : Int)) = (x : Int) + (y : Int) + (c : Int) := by rw [IntKind.wrap_u64]; omega
  go_enter Tryz.func161, Tryz.ntmps161
  go_wp2
  go_ret2
  refine ⟨?_, rfl⟩
  show Ending.returned (.tuple #[.int .u32 _, .int .u32 _]) = _
  congr 5 <;> omega
theorem top_bit {v : Nat} (h : v < 4294967296) : v.testBit 31 = decide (2147483648 ≤ v) := by
  rw [Nat.testBit_eq_decide_div_mod_eq, show (2 : Nat) ^ 31 = 2147483648 from rfl]
  rw [Bool.eq_iff_iff, decide_eq_true_iff, decide_eq_true_iff]
  omega
theorem borrow_bits (x y c : Nat) (hx : x < 4294967296) (hy : y < 4294967296) (hc : c ≤ 1) :
    bits BinOp.or IntKind.u32 (bits BinOp.and IntKind.u32 (bits BinOp.xor IntKind.u32 IntKind.u32.max (x : Int)) (y : Int)) (bits BinOp.and IntKind.u32 (bits BinOp.xor IntKind.u32 IntKind.u32.max (bits BinOp.xor IntKind.u32 (x : Int) (y : Int))) (((x : Int) - (y : Int) - (c : Int)) % 4294967296)) / 2147483648 = ((if x < y + c then 1 else 0 : Nat) : Int) := by
  obtain ⟨d, hd, hd2⟩ : ∃ d : Nat, ((x : Int) - (y : Int) - (c : Int)) % 4294967296 = (d : Int) ∧ d = (x + 4294967296 - y - c) % 4294967296 := ⟨_, by omega, rfl⟩
  have hdl : d < 4294967296 := by omega
  have hmax : IntKind.u32.max = ((4294967295 : Nat) : Int) := by decide
  have b1 : 4294967295 ^^^ x < 4294967296 := Nat.xor_lt_two_pow (n := 32) (by omega) (by omega)
  have b2 : x ^^^ y < 4294967296 := Nat.xor_lt_two_pow (n := 32) (by omega) (by omega)
  have b3 : 4294967295 ^^^ (x ^^^ y) < 4294967296 := Nat.xor_lt_two_pow (n := 32) (by omega) (by omega)
  have b4 : (4294967295 ^^^ x) &&& y < 4294967296 := Nat.lt_of_le_of_lt Nat.and_le_right hy
  have b5 : (4294967295 ^^^ (x ^^^ y)) &&& d < 4294967296 := Nat.lt_of_le_of_lt Nat.and_le_right hdl
  rw [hd, hmax, u32_xor_nat 4294967295 x (by omega) hx, u32_and_nat _ y b1 hy, u32_xor_nat x y hx hy, u32_xor_nat 4294967295 _ (by omega) b2, u32_and_nat _ d b3 hdl, u32_or_nat _ _ b4 b5]
  have b6 : ((4294967295 ^^^ x) &&& y) ||| ((4294967295 ^^^ (x ^^^ y)) &&& d) < 4294967296 := Nat.or_lt_two_pow (n := 32) b4 b5
  have hb : (((4294967295 ^^^ x) &&& y) ||| ((4294967295 ^^^ (x ^^^ y)) &&& d)).testBit 31 = decide (x < y + c) := by
    rw [Nat.testBit_or, Nat.testBit_and, Nat.testBit_and, Nat.testBit_xor, Nat.testBit_xor, Nat.testBit_xor, top_bit hx, top_bit hy, top_bit hdl, show (4294967295 : Nat).testBit 31 = true from by decide]
    by_cases c1 : 2147483648 ≤ x <;> by_cases c2 : 2147483648 ≤ y <;> by_cases c3 : x < y + c <;> simp [c1, c2, c3] <;> omega
  rw [top_bit b6] at hb
  generalize ((4294967295 ^^^ x) &&& y) ||| ((4294967295 ^^^ (x ^^^ y)) &&& d) = V at *
  by_cases c3 : x < y + c
  · rw [if_pos c3]
    simp [c3] at hb
    omega
  · rw [if_neg c3]
    simp [c3] at hb
    omega
theorem sub32_any (x y c : Nat) (w : World) (hx : x < 4294967296) (hy : y < 4294967296) (hc : c ≤ 1) :
    Calls Tryz.prog 162 #[.int .u32 (x : Int), .int .u32 (y : Int), .int .u32 (c : Int)] w fun e w' => e = .returned (.tuple #[.int .u32 (((x + 4294967296 - y - c) % 4294967296 : Nat) : Int), .int .u32 ((if x < y + c then 1 else 0 : Nat) : Int)]) ∧ w = w' := by
  have hsg : IntKind.u32.signed = false := rfl
  have hbb := borrow_bits x y c hx hy hc
  generalize (if x < y + c then 1 else 0 : Nat) = B at *
  go_enter Tryz.func162, Tryz.ntmps162
  go_wp2
  go_ret2
  refine ⟨?_, rfl⟩
  show Ending.returned (.tuple #[.int .u32 _, .int .u32 _]) = _
  congr 5
  omega
set_option maxRecDepth 100000 in
theorem clone_words (A : Option Addr) (n c : Nat) (l : List Nat) (w : World) (h : Sl w 1 A n c (wds l)) (hn : n ≤ 1000000) :
    Calls Tryz.prog 82 #[.slice A n c] w fun e w' => ∃ A' c', e = .returned (.slice A' n c') ∧ w'.ownsRow w.heap.size 169 1 (.slice A' n c') n (wds l) ∧ Pu w w' := by
  have hl := h.wlen
  have q : ∀ (w : World) (a : Option Addr) (n c n' c' : Nat), (binOp .eql 28 (.slice a n c) (.slice none n' c')).run Tryz.prog w = .ok (.bool a.isNone) w := fun w a n c n' c' => Lib.run_eql_slice_nil w _ _ a n c n' c' Tryz.underlying28
  have hone : ∀ u ∈ wds l, u.oneCell' = true := by
    intro u hu
    simp only [wds, List.mem_map] at hu
    obtain ⟨x, _, rfl⟩ := hu
    rfl
  rcases A with _ | a
  · have h0 : n = 0 := by
      rcases Nat.eq_zero_or_pos n with h0 | h0
      · exact h0
      · obtain ⟨b, off, e, _⟩ := h.2.2 h0
        cases e
    subst h0
    obtain rfl : l = [] := List.eq_nil_of_length_eq_zero hl
    go_enter Tryz.func82, Tryz.ntmps82
    go_wp2
    go_ret
    exact ⟨none, 0, rfl, World.ownsRow_nil _ _ _ _, Pu.refl _⟩
  · have hE : (w.alloc (.cells #[] 169)).ownsRow w.heap.size 169 1 (.slice (some ⟨w.heap.size, 0, none⟩) 0 0) 0 [] := World.ownsRow_made w #[] 0 (Nat.le_refl _) (Nat.zero_le _) rfl
    go_enter Tryz.func82, Tryz.ntmps82
    go_wp2_with (at_builtin; refine wpList_app eiU32 rfl (.tmp 5) (.tmp 6) rfl rfl rfl hE (h.pu ((Pu.refl _).alloc _)) hone (by simp [maxLen]; omega) (by omega) (by simp) ?_)
    intro A1 c1 w2 hown hg
    have hP := pu_push ((Pu.refl w).alloc _) hE (Nat.le_refl _) hg
    go_wp2
    go_ret
    exact ⟨A1, c1, rfl, by simpa using hown, hP⟩
end
section
set_option linter.unusedVariables false
open Go.RowKit
/- zed: plus. -/
theorem fill_next {os : List Nat} {j n y : Nat} (h : os.length = j) (hj : j < n) : (os ++ List.replicate (n - j) 0).set j y = (os ++ [y]) ++ List.replicate (n - (j + 1)) 0 := by
  rw [List.set_append_right _ _ (by omega), h, Nat.sub_self, show n - j = (n - (j + 1)) + 1 by omega, List.replicate_succ]
  simp
theorem take_next {l : List Nat} {j x : Nat} (h : l[j]? = some x) : pval 4294967296 (l.take (j + 1)) = pval 4294967296 (l.take j) + 4294967296 ^ j * x := by
  have hj := (List.getElem?_eq_some_iff.1 h).1
  rw [List.take_add_one, h]
  show pval 4294967296 (l.take j ++ [x]) = _
  rw [pval_snoc, List.length_take, Nat.min_eq_left (by omega)]
theorem carry_step {p s c t r q v : Nat} (h : s + p * c = t) (e : 4294967296 * q + r = v + c) : s + p * r + p * 4294967296 * q = t + p * v := by
  have h1 : p * (4294967296 * q + r) = p * (v + c) := by rw [e]
  rw [Nat.mul_add, Nat.mul_add, ← Nat.mul_assoc] at h1
  omega
theorem add_step {l k os : List Nat} {j x y cy q r : Nat} (ho : os.length = j) (hx : l[j]? = some x) (hy : k[j]? = some y) (hv : pval 4294967296 os + 4294967296 ^ j * cy = pval 4294967296 (l.take j) + pval 4294967296 (k.take j)) (e : 4294967296 * q + r = x + y + cy) :
    pval 4294967296 (os ++ [r]) + 4294967296 ^ (j + 1) * q = pval 4294967296 (l.take (j + 1)) + pval 4294967296 (k.take (j + 1)) := by
  rw [pval_snoc, ho, Nat.pow_succ, take_next hx, take_next hy]
  have := carry_step hv e
  rw [Nat.mul_add] at this
  omega
theorem add_step0 {l k os : List Nat} {j x cy q r : Nat} (ho : os.length = j) (hx : l[j]? = some x) (hy : k.length ≤ j) (hv : pval 4294967296 os + 4294967296 ^ j * cy = pval 4294967296 (l.take j) + pval 4294967296 (k.take j)) (e : 4294967296 * q + r = x + 0 + cy) :
    pval 4294967296 (os ++ [r]) + 4294967296 ^ (j + 1) * q = pval 4294967296 (l.take (j + 1)) + pval 4294967296 (k.take (j + 1)) := by
  rw [pval_snoc, ho, Nat.pow_succ, take_next hx, List.take_of_length_le (show k.length ≤ j + 1 by omega)]
  rw [List.take_of_length_le hy] at hv
  have := carry_step hv (v := x) (by omega)
  omega
set_option maxHeartbeats 2000000 in
set_option maxRecDepth 100000 in
theorem plus_any (A C : Option Addr) (n c m d : Nat) (l k : List Nat) (w : World) (h : Sl w 1 A n c (wds l)) (g : Sl w 1 C m d (wds k)) (hn : n ≤ 100000) (hm : m ≤ 100000) (hl : Below_ 4294967296 l) (hk : Below_ 4294967296 k) :
    Calls Tryz.prog 125 #[.slice A n c, .slice C m d] w fun e w' => ∃ A' n' c' o, e = .returned (.slice A' n' c') ∧ n' ≤ n + m + 1 ∧ c' ≤ maxLen ∧ Sl w' 1 A' n' c' (wds o) ∧ Below_ 4294967296 o ∧ pval 4294967296 o = pval 4294967296 l + pval 4294967296 k ∧ W32 w' A' n' ∧ Pu w w' := by
  have ll := h.wlen
  have lk := g.wlen
  rcases Nat.lt_or_ge n m with hnm | hnm
  · have d1 : decide ((n : Int) < (m : Int)) = true := by simp; omega
    have hmk := fun W => run_make_words m (m + 1) (by omega) (by omega) W
    have Hmk := Lib.hid hmk
    clear hmk
    have hw1 : IntKind.i64.wrap ((m : Int) + 1) = (m : Int) + 1 := IntWalk.i64_in _ (by omega)
    have hcast : ((m + 1 : Nat) : Int) = (m : Int) + 1 := by omega
    rw [hcast] at Hmk
    have hW : Pu w (w.alloc (.cells (Array.replicate (m + 1) (.int .u32 0)) 169)) := (Pu.refl w).alloc _
    have hA := WA.made w (m + 1)
    go_enter Tryz.func125, Tryz.ntmps125
    go_wp2_with (simp only [Hmk.out])
    go_loopw [6, 24] (fun cv v ws => ∃ (j cy : Nat) (os : List Nat), j ≤ m ∧ v = .int .i64 j ∧ cv = .int .u32 (cy : Int) ∧ cy ≤ 1 ∧ os.length = j ∧ Below_ 4294967296 os ∧ pval 4294967296 os + 4294967296 ^ j * cy = pval 4294967296 (k.take j) + pval 4294967296 (l.take j) ∧ WA ws w.heap.size (os ++ List.replicate (m + 1 - j) 0) ∧ Pu w ws) (fun _ v _ => m - (intOf v).toNat)
    case atStart => exact ⟨0, 0, [], Nat.zero_le _, rfl, rfl, by omega, rfl, Below_.nil _, by simp [pval], by simpa using hA, hW⟩
    case round =>
      obtain ⟨j, cy, os, hj, rfl, rfl, hcy, hol, hob, hv, hA, hP⟩ := hrel
      have HV := Lib.hid hv
      clear hv
      have hA0 := hA
      by_cases hlt : j < m
      · obtain ⟨x, hx⟩ : ∃ x, k[j]? = some x := ⟨_, List.getElem?_eq_getElem (by omega)⟩
        have hxb := hk x (List.mem_of_getElem? hx)
        obtain ⟨b1, o1, ea, hb1, c1'⟩ := (g.pu hP).wat hx
        have Hx := Lib.hid hx
        clear hx
        have hg0 : wr.cell? ⟨w.heap.size, j, none⟩ = some (.int .u32 0) := by
          have := hA.cell (j := j) (x := 0) (by
            rw [List.getElem?_append_right (by omega), hol, Nat.sub_self, List.getElem?_replicate, if_pos (by omega)])
          simpa using this
        have hf0 := hA.frozen j
        have stepA : ∀ y, WA (wr.setCell ⟨w.heap.size, j, none⟩ (.int .u32 (y : Nat))) w.heap.size ((os ++ [y]) ++ List.replicate (m + 1 - (j + 1)) 0) := fun y => by
          have h2 := hA0.set_ j y
          rwa [fill_next hol (by omega)] at h2
        have StepA := Lib.hid stepA
        clear stepA hA hA0
        by_cases hjm : j < n
        · obtain ⟨y, hy⟩ : ∃ y, l[j]? = some y := ⟨_, List.getElem?_eq_getElem (by omega)⟩
          have hyb := hl y (List.mem_of_getElem? hy)
          obtain ⟨b2, o2, eb, hb2, c2'⟩ := (h.pu hP).wat hy
          have Hy := Lib.hid hy
          clear hy
          subst ea eb
          go_wp2_with fail
          refine (add32_any x y cy _ hxb hyb hcy).mono ?_
          rintro e w1 ⟨rfl, rfl⟩
          have hdm := Nat.div_add_mod (x + y + cy) 4294967296
          have ho : (x + y + cy) % 4294967296 < 4294967296 := Nat.mod_lt _ (by omega)
          have hc2 : (x + y + cy) / 4294967296 ≤ 1 := by omega
          generalize (x + y + cy) / 4294967296 = q at *
          generalize (x + y + cy) % 4294967296 = r at *
          go_wp2
          go_roundw
          case rel => exact ⟨j + 1, q, os ++ [r], by omega, by go_num, rfl, hc2, by simp [hol], hob.snoc ho, add_step hol Hx.out Hy.out HV.out hdm, StepA.out r, hP.setCell (Nat.le_refl _) _⟩
          case measure => simp [intOf]; omega
        · subst ea
          go_wp2_with fail
          refine (add32_any x 0 cy _ hxb (by omega) hcy).mono ?_
          rintro e w1 ⟨rfl, rfl⟩
          have hdm := Nat.div_add_mod (x + 0 + cy) 4294967296
          have ho : (x + 0 + cy) % 4294967296 < 4294967296 := Nat.mod_lt _ (by omega)
          have hc2 : (x + 0 + cy) / 4294967296 ≤ 1 := by omega
          generalize (x + 0 + cy) / 4294967296 = q at *
          generalize (x + 0 + cy) % 4294967296 = r at *
          go_wp2
          go_roundw
          case rel => exact ⟨j + 1, q, os ++ [r], by omega, by go_num, rfl, hc2, by simp [hol], hob.snoc ho, add_step0 hol Hx.out (by omega) HV.out hdm, StepA.out r, hP.setCell (Nat.le_refl _) _⟩
          case measure => simp [intOf]; omega
      · obtain rfl : j = m := by omega
        have hown : wr.ownsRow w.heap.size 169 1 (.slice (some ⟨w.heap.size, 0, none⟩) j (j + 1)) j (wds os) := by
          refine ⟨by simp [hol], .inr ⟨w.heap.size, j + 1, _, rfl, Nat.le_refl _, hA, by omega, by simp [maxLen]; omega, by simp [hol], ?_⟩⟩
          simp [hol]
        have hsz := hP.size
        go_wp2_with (at_builtin; refine wpList_push eiU32 rfl (.tmp 49) (.tmp 51) rfl #[.int .u32 (cy : Int)] rfl (by simp [Value.oneCell']) rfl rfl hown (by simp [maxLen]; omega) (by omega) hsz ?_)
        intro A3 c3 w3 ho3 hg3
        have hP3 := pu_push hP hown (Nat.le_refl _) hg3
        have hle3 := own_le ho3
        have hS3 : Sl w3 1 A3 (j + 1) c3 (wds (os ++ [cy])) := by
          have := Sl.of_own ho3
          simpa using this
        have hv3 : pval 4294967296 (os ++ [cy]) = pval 4294967296 k + pval 4294967296 l := by
          have := HV.out
          rw [List.take_of_length_le (by omega), List.take_of_length_le (by omega)] at this
          rw [pval_snoc, hol, this]
        have Hv3 := Lib.hid hv3
        clear hv3
        go_wp2
        go_ret
        exact ⟨A3, j + 1, c3, os ++ [cy], rfl, by omega, hle3.2, hS3, hob.snoc (by omega), by rw [Hv3.out, Nat.add_comm], W32.of_own ho3, hP3⟩
  · have d1 : decide ((n : Int) < (m : Int)) = false := by simp; omega
    have hmk := fun W => run_make_words n (n + 1) (by omega) (by omega) W
    have Hmk := Lib.hid hmk
    clear hmk
    have hw1 : IntKind.i64.wrap ((n : Int) + 1) = (n : Int) + 1 := IntWalk.i64_in _ (by omega)
    have hcast : ((n + 1 : Nat) : Int) = (n : Int) + 1 := by omega
    rw [hcast] at Hmk
    have hW : Pu w (w.alloc (.cells (Array.replicate (n + 1) (.int .u32 0)) 169)) := (Pu.refl w).alloc _
    have hA := WA.made w (n + 1)
    go_enter Tryz.func125, Tryz.ntmps125
    go_wp2_with (simp only [Hmk.out])
    go_loopw [6, 24] (fun cv v ws => ∃ (j cy : Nat) (os : List Nat), j ≤ n ∧ v = .int .i64 j ∧ cv = .int .u32 (cy : Int) ∧ cy ≤ 1 ∧ os.length = j ∧ Below_ 4294967296 os ∧ pval 4294967296 os + 4294967296 ^ j * cy = pval 4294967296 (l.take j) + pval 4294967296 (k.take j) ∧ WA ws w.heap.size (os ++ List.replicate (n + 1 - j) 0) ∧ Pu w ws) (fun _ v _ => n - (intOf v).toNat)
    case atStart => exact ⟨0, 0, [], Nat.zero_le _, rfl, rfl, by omega, rfl, Below_.nil _, by simp [pval], by simpa using hA, hW⟩
    case round =>
      obtain ⟨j, cy, os, hj, rfl, rfl, hcy, hol, hob, hv, hA, hP⟩ := hrel
      have HV := Lib.hid hv
      clear hv
      have hA0 := hA
      by_cases hlt : j < n
      · obtain ⟨x, hx⟩ : ∃ x, l[j]? = some x := ⟨_, List.getElem?_eq_getElem (by omega)⟩
        have hxb := hl x (List.mem_of_getElem? hx)
        obtain ⟨b1, o1, ea, hb1, c1'⟩ := (h.pu hP).wat hx
        have Hx := Lib.hid hx
        clear hx
        have hg0 : wr.cell? ⟨w.heap.size, j, none⟩ = some (.int .u32 0) := by
          have := hA.cell (j := j) (x := 0) (by
            rw [List.getElem?_append_right (by omega), hol, Nat.sub_self, List.getElem?_replicate, if_pos (by omega)])
          simpa using this
        have hf0 := hA.frozen j
        have stepA : ∀ y, WA (wr.setCell ⟨w.heap.size, j, none⟩ (.int .u32 (y : Nat))) w.heap.size ((os ++ [y]) ++ List.replicate (n + 1 - (j + 1)) 0) := fun y => by
          have h2 := hA0.set_ j y
          rwa [fill_next hol (by omega)] at h2
        have StepA := Lib.hid stepA
        clear stepA hA hA0
        by_cases hjm : j < m
        · obtain ⟨y, hy⟩ : ∃ y, k[j]? = some y := ⟨_, List.getElem?_eq_getElem (by omega)⟩
          have hyb := hk y (List.mem_of_getElem? hy)
          obtain ⟨b2, o2, eb, hb2, c2'⟩ := (g.pu hP).wat hy
          have Hy := Lib.hid hy
          clear hy
          subst ea eb
          go_wp2_with fail
          refine (add32_any x y cy _ hxb hyb hcy).mono ?_
          rintro e w1 ⟨rfl, rfl⟩
          have hdm := Nat.div_add_mod (x + y + cy) 4294967296
          have ho : (x + y + cy) % 4294967296 < 4294967296 := Nat.mod_lt _ (by omega)
          have hc2 : (x + y + cy) / 4294967296 ≤ 1 := by omega
          generalize (x + y + cy) / 4294967296 = q at *
          generalize (x + y + cy) % 4294967296 = r at *
          go_wp2
          go_roundw
          case rel => exact ⟨j + 1, q, os ++ [r], by omega, by go_num, rfl, hc2, by simp [hol], hob.snoc ho, add_step hol Hx.out Hy.out HV.out hdm, StepA.out r, hP.setCell (Nat.le_refl _) _⟩
          case measure => simp [intOf]; omega
        · subst ea
          go_wp2_with fail
          refine (add32_any x 0 cy _ hxb (by omega) hcy).mono ?_
          rintro e w1 ⟨rfl, rfl⟩
          have hdm := Nat.div_add_mod (x + 0 + cy) 4294967296
          have ho : (x + 0 + cy) % 4294967296 < 4294967296 := Nat.mod_lt _ (by omega)
          have hc2 : (x + 0 + cy) / 4294967296 ≤ 1 := by omega
          generalize (x + 0 + cy) / 4294967296 = q at *
          generalize (x + 0 + cy) % 4294967296 = r at *
          go_wp2
          go_roundw
          case rel => exact ⟨j + 1, q, os ++ [r], by omega, by go_num, rfl, hc2, by simp [hol], hob.snoc ho, add_step0 hol Hx.out (by omega) HV.out hdm, StepA.out r, hP.setCell (Nat.le_refl _) _⟩
          case measure => simp [intOf]; omega
      · obtain rfl : j = n := by omega
        have hown : wr.ownsRow w.heap.size 169 1 (.slice (some ⟨w.heap.size, 0, none⟩) j (j + 1)) j (wds os) := by
          refine ⟨by simp [hol], .inr ⟨w.heap.size, j + 1, _, rfl, Nat.le_refl _, hA, by omega, by simp [maxLen]; omega, by simp [hol], ?_⟩⟩
          simp [hol]
        have hsz := hP.size
        go_wp2_with (at_builtin; refine wpList_push eiU32 rfl (.tmp 49) (.tmp 51) rfl #[.int .u32 (cy : Int)] rfl (by simp [Value.oneCell']) rfl rfl hown (by simp [maxLen]; omega) (by omega) hsz ?_)
        intro A3 c3 w3 ho3 hg3
        have hP3 := pu_push hP hown (Nat.le_refl _) hg3
        have hle3 := own_le ho3
        have hS3 : Sl w3 1 A3 (j + 1) c3 (wds (os ++ [cy])) := by
          have := Sl.of_own ho3
          simpa using this
        have hv3 : pval 4294967296 (os ++ [cy]) = pval 4294967296 l + pval 4294967296 k := by
          have := HV.out
          rw [List.take_of_length_le (by omega), List.take_of_length_le (by omega)] at this
          rw [pval_snoc, hol, this]
        have Hv3 := Lib.hid hv3
        clear hv3
        go_wp2
        go_ret
        exact ⟨A3, j + 1, c3, os ++ [cy], rfl, by omega, hle3.2, hS3, hob.snoc (by omega), by rw [Hv3.out], W32.of_own ho3, hP3⟩
/- zed: minus. -/
theorem borrow_step {p s kk ll c x y r q : Nat} (h : s + kk = ll + p * c) (e : r + y + c = x + 4294967296 * q) : s + p * r + (kk + p * y) = ll + p * x + p * 4294967296 * q := by
  have h1 : p * (r + y + c) = p * (x + 4294967296 * q) := by rw [e]
  rw [Nat.mul_add, Nat.mul_add, Nat.mul_add, ← Nat.mul_assoc] at h1
  omega
theorem sub_eq {x y c : Nat} (hx : x < 4294967296) (hy : y < 4294967296) (hc : c ≤ 1) : (x + 4294967296 - y - c) % 4294967296 + y + c = x + 4294967296 * (if x < y + c then 1 else 0) := by
  split <;> omega
theorem sub_step {l k os : List Nat} {j x y cy q r : Nat} (ho : os.length = j) (hx : l[j]? = some x) (hy : k[j]? = some y) (hv : pval 4294967296 os + pval 4294967296 (k.take j) = pval 4294967296 (l.take j) + 4294967296 ^ j * cy) (e : r + y + cy = x + 4294967296 * q) :
    pval 4294967296 (os ++ [r]) + pval 4294967296 (k.take (j + 1)) = pval 4294967296 (l.take (j + 1)) + 4294967296 ^ (j + 1) * q := by
  rw [pval_snoc, ho, Nat.pow_succ, take_next hx, take_next hy]
  exact borrow_step hv e
theorem sub_step0 {l k os : List Nat} {j x cy q r : Nat} (ho : os.length = j) (hx : l[j]? = some x) (hy : k.length ≤ j) (hv : pval 4294967296 os + pval 4294967296 (k.take j) = pval 4294967296 (l.take j) + 4294967296 ^ j * cy) (e : r + 0 + cy = x + 4294967296 * q) :
    pval 4294967296 (os ++ [r]) + pval 4294967296 (k.take (j + 1)) = pval 4294967296 (l.take (j + 1)) + 4294967296 ^ (j + 1) * q := by
  rw [pval_snoc, ho, Nat.pow_succ, take_next hx, List.take_of_length_le (show k.length ≤ j + 1 by omega)]
  rw [List.take_of_length_le hy] at hv
  have := borrow_step hv e
  omega
set_option maxHeartbeats 2000000 in
set_option maxRecDepth 100000 in
theorem minus_any (A C : Option Addr) (n c m d : Nat) (l k : List Nat) (w : World) (h : Sl w 1 A n c (wds l)) (g : Sl w 1 C m d (wds k)) (hn : n ≤ 100000) (hm : m ≤ 100000) (hl : Below_ 4294967296 l) (hk : Below_ 4294967296 k) (tk : Tidy k)
    (hge : pval 4294967296 k ≤ pval 4294967296 l) :
    Calls Tryz.prog 127 #[.slice A n c, .slice C m d] w fun e w' => ∃ A' n' c' o, e = .returned (.slice A' n' c') ∧ n' = n ∧ c' ≤ maxLen ∧ Sl w' 1 A' n' c' (wds o) ∧ Below_ 4294967296 o ∧ pval 4294967296 o = pval 4294967296 l - pval 4294967296 k ∧ W32 w' A' n' ∧ Pu w w' := by
  have ll := h.wlen
  have lk := g.wlen
  have hmn : m ≤ n := by
    have h1 := pval_lt hl
    have := tidy_len tk (k := l.length) (by omega)
    omega
  have hmk := fun W => run_make_words n n (by omega) (by omega) W
  have Hmk := Lib.hid hmk
  clear hmk
  have hW : Pu w (w.alloc (.cells (Array.replicate n (.int .u32 0)) 169)) := (Pu.refl w).alloc _
  have hA := WA.made w n
  go_enter Tryz.func127, Tryz.ntmps127
  go_wp2_with (simp only [Hmk.out])
  go_loopw [6, 14] (fun cv v ws => ∃ (j cy : Nat) (os : List Nat), j ≤ n ∧ v = .int .i64 j ∧ cv = .int .u32 (cy : Int) ∧ cy ≤ 1 ∧ os.length = j ∧ Below_ 4294967296 os ∧ pval 4294967296 os + pval 4294967296 (k.take j) = pval 4294967296 (l.take j) + 4294967296 ^ j * cy ∧ WA ws w.heap.size (os ++ List.replicate (n - j) 0) ∧ Pu w ws) (fun _ v _ => n - (intOf v).toNat)
  case atStart => exact ⟨0, 0, [], Nat.zero_le _, rfl, rfl, by omega, rfl, Below_.nil _, by simp [pval], by simpa using hA, hW⟩
  case round =>
    obtain ⟨j, cy, os, hj, rfl, rfl, hcy, hol, hob, hv, hA, hP⟩ := hrel
    have HV := Lib.hid hv
    clear hv
    have hA0 := hA
    by_cases hlt : j < n
    · obtain ⟨x, hx⟩ : ∃ x, l[j]? = some x := ⟨_, List.getElem?_eq_getElem (by omega)⟩
      have hxb := hl x (List.mem_of_getElem? hx)
      obtain ⟨b1, o1, ea, hb1, c1'⟩ := (h.pu hP).wat hx
      have Hx := Lib.hid hx
      clear hx
      have hg0 : wr.cell? ⟨w.heap.size, j, none⟩ = some (.int .u32 0) := by
        have := hA.cell (j := j) (x := 0) (by
          rw [List.getElem?_append_right (by omega), hol, Nat.sub_self, List.getElem?_replicate, if_pos (by omega)])
        simpa using this
      have hf0 := hA.frozen j
      have stepA : ∀ y, WA (wr.setCell ⟨w.heap.size, j, none⟩ (.int .u32 (y : Nat))) w.heap.size ((os ++ [y]) ++ List.replicate (n - (j + 1)) 0) := fun y => by
        have h2 := hA0.set_ j y
        rwa [fill_next hol (by omega)] at h2
      have StepA := Lib.hid stepA
      clear stepA hA hA0
      by_cases hjm : j < m
      · obtain ⟨y, hy⟩ : ∃ y, k[j]? = some y := ⟨_, List.getElem?_eq_getElem (by omega)⟩
        have hyb := hk y (List.mem_of_getElem? hy)
        obtain ⟨b2, o2, eb, hb2, c2'⟩ := (g.pu hP).wat hy
        have Hy := Lib.hid hy
        clear hy
        subst ea eb
        go_wp2_with fail
        refine (sub32_any x y cy _ hxb hyb hcy).mono ?_
        rintro e w1 ⟨rfl, rfl⟩
        have hdm := sub_eq hxb hyb hcy
        have ho : (x + 4294967296 - y - cy) % 4294967296 < 4294967296 := Nat.mod_lt _ (by omega)
        have hc2 : (if x < y + cy then 1 else 0) ≤ 1 := by split <;> omega
        generalize (if x < y + cy then 1 else 0) = q at *
        generalize (x + 4294967296 - y - cy) % 4294967296 = r at *
        go_wp2
        go_roundw
        case rel => exact ⟨j + 1, q, os ++ [r], by omega, by go_num, rfl, hc2, by simp [hol], hob.snoc ho, sub_step hol Hx.out Hy.out HV.out hdm, StepA.out r, hP.setCell (Nat.le_refl _) _⟩
        case measure => simp [intOf]; omega
      · subst ea
        go_wp2_with fail
        refine (sub32_any x 0 cy _ hxb (by omega) hcy).mono ?_
        rintro e w1 ⟨rfl, rfl⟩
        have hdm := sub_eq (y := 0) hxb (by omega) hcy
        have ho : (x + 4294967296 - 0 - cy) % 4294967296 < 4294967296 := Nat.mod_lt _ (by omega)
        have hc2 : (if x < 0 + cy then 1 else 0) ≤ 1 := by split <;> omega
        generalize (if x < 0 + cy then 1 else 0) = q at *
        generalize (x + 4294967296 - 0 - cy) % 4294967296 = r at *
        go_wp2
        go_roundw
        case rel => exact ⟨j + 1, q, os ++ [r], by omega, by go_num, rfl, hc2, by simp [hol], hob.snoc ho, sub_step0 hol Hx.out (by omega) HV.out hdm, StepA.out r, hP.setCell (Nat.le_refl _) _⟩
        case measure => simp [intOf]; omega
    · obtain rfl : j = n := by omega
      have hS3 : Sl wr 1 (some ⟨w.heap.size, 0, none⟩) j j (wds os) := by
        have := hA.sl (n := j) (c := j) (by simp [hol]) (Nat.le_refl _)
        rwa [Nat.sub_self, List.replicate_zero, List.append_nil, List.take_of_length_le (by omega)] at this
      have hv3 : pval 4294967296 os = pval 4294967296 l - pval 4294967296 k := by
        have h1 := HV.out
        have h2 := pval_lt hob
        rw [List.take_of_length_le (by omega), List.take_of_length_le (by omega)] at h1
        rw [hol] at h2
        have h3 : cy = 0 ∨ cy = 1 := by omega
        rcases h3 with rfl | rfl
        · omega
        · omega
      have Hv3 := Lib.hid hv3
      clear hv3
      go_wp2
      go_ret
      exact ⟨_, j, j, os, rfl, rfl, by simp [maxLen]; omega, hS3, hob, Hv3.out, W32.of_blk hA, hP⟩
end
section
set_option linter.unusedVariables false
open Go.RowKit
theorem own_made (w : World) (n : Nat) (hn : n ≤ 1000000) : (w.alloc (.cells (Array.replicate (n + 1) (.int .u32 0)) 169)).ownsRow w.heap.size 169 1 (.slice (some ⟨w.heap.size, 0, none⟩) 0 (n + 1)) 0 (wds []) := by
  refine ⟨by simp, .inr ⟨w.heap.size, n + 1, _, rfl, Nat.le_refl _, heap_alloc_new w _, by omega, by simp [maxLen]; omega, by simp, by simp⟩⟩
theorem own_snoc {w : World} {base n c r : Nat} {A : Option Addr} {os : List Nat} (h : w.ownsRow base 169 1 (.slice A n c) n (wds os ++ #[Value.int .u32 (r : Int)].toList)) : w.ownsRow base 169 1 (.slice A n c) n (wds (os ++ [r])) := by
  show w.ownsRow _ _ _ _ _ (List.map _ (_ ++ _))
  rw [List.map_append]
  exact h
theorem or_shift (k x s : Nat) (hk : k < 2 ^ s) (hx : x < 4294967296) (hs : s ≤ 31) : bits BinOp.or IntKind.u64 (k : Int) (IntKind.u64.wrap ((x : Int) * 2 ^ s)) = ((k + x * 2 ^ s : Nat) : Int) ∧ k + x * 2 ^ s < 9223372036854775808 := by
  have h2 : 2 ^ s ≤ 2 ^ 31 := Nat.pow_le_pow_right (by omega) hs
  have hm : x * 2 ^ s ≤ 4294967295 * 2 ^ 31 := Nat.mul_le_mul (by omega) h2
  have e : (x : Int) * 2 ^ s = ((x * 2 ^ s : Nat) : Int) := by simp
  rw [e, u64_small (by omega), u64_or_nat k _ (by omega) (by omega), Nat.or_comm, ← Nat.shiftLeft_eq, ← Nat.shiftLeft_add_eq_or_of_lt hk, Nat.shiftLeft_eq]
  exact ⟨by rw [Nat.add_comm], by omega⟩
set_option maxHeartbeats 2000000 in
set_option maxRecDepth 100000 in
theorem shift_any (A : Option Addr) (n c : Nat) (l : List Nat) (s : Nat) (w : World) (h : Sl w 1 A n c (wds l)) (hn : n ≤ 100000) (hb : Below_ 4294967296 l) (hs : s ≤ 31) :
    Calls Tryz.prog 199 #[.slice A n c, .int .i64 (s : Int)] w fun e w' => ∃ A' c' o, e = .returned (.slice A' (n + 1) c') ∧ c' ≤ maxLen ∧ Sl w' 1 A' (n + 1) c' (wds o) ∧ Below_ 4294967296 o ∧ pval 4294967296 o = pval 4294967296 l * 2 ^ s ∧ Pu w w' ∧ (∃ cs, w'.ownsRow w.heap.size 169 1 (.slice A' (n + 1) c') (n + 1) cs ∧ cs = wds o) := by
  have hl := h.wlen
  have hmk := fun W => run_make_words 0 (n + 1) (by omega) (by omega) W
  have hcast : ((n + 1 : Nat) : Int) = (n : Int) + 1 := by omega
  rw [hcast, show ((0 : Nat) : Int) = 0 from rfl] at hmk
  have Hmk := Lib.hid hmk
  have hw1 : IntKind.i64.wrap ((n : Int) + 1) = (n : Int) + 1 := IntWalk.i64_in _ (by omega)
  have hW : Pu w (w.alloc (.cells (Array.replicate (n + 1) (.int .u32 0)) 169)) := (Pu.refl w).alloc _
  have hO := own_made w n (by omega)
  clear hmk hcast
  go_enter Tryz.func199, Tryz.ntmps199
  go_wp2_with (simp only [Hmk.out])
  go_loopw [5, 6, 15] (fun ov mv iv ws => ∃ (j k c1 : Nat) (A1 : Option Addr) (os : List Nat), j ≤ n ∧ mv = .int .u64 (k : Int) ∧ ov = .slice A1 j c1 ∧ iv = .int .i64 j ∧ ws.ownsRow w.heap.size 169 1 (.slice A1 j c1) j (wds os) ∧ os.length = j ∧ Below_ 4294967296 os ∧ k < 2 ^ s ∧ pval 4294967296 os + 4294967296 ^ j * k = pval 4294967296 (l.take j) * 2 ^ s ∧ Pu w ws) (fun _ _ iv _ => n - (intOf iv).toNat)
  case atStart => exact ⟨0, 0, n + 1, _, [], Nat.zero_le _, rfl, rfl, rfl, hO, rfl, Below_.nil _, Nat.pow_pos (by omega), by simp [pval], hW⟩
  case round =>
    clear hO hW
    obtain ⟨j, k, c1, A1, os, hj, rfl, rfl, rfl, hO, hol, hob, hk, hv, hP⟩ := hrel
    have HV := Lib.hid hv
    clear hv
    have hsz := hP.size
    by_cases hlt : j < n
    · obtain ⟨x, hx⟩ : ∃ x, l[j]? = some x := ⟨_, List.getElem?_eq_getElem (by omega)⟩
      have hxb := hb x (List.mem_of_getElem? hx)
      obtain ⟨b1, o1, ea, hb1, hc1⟩ := (h.pu hP).wat hx
      have Hx := Lib.hid hx
      clear hx
      subst ea
      have hx64 := u64_small (a := x) (by omega)
      obtain ⟨hor, hM⟩ := or_shift k x s hk hxb hs
      have hMs := shift_lt (show s ≤ 32 by omega) hk hxb
      obtain ⟨p, hp⟩ : ∃ p, p = x * 2 ^ s := ⟨_, rfl⟩
      rw [← hp] at hM hMs hor
      have hq : (k + p) / 4294967296 < 2 ^ s := (Nat.div_lt_iff_lt_mul (by omega)).2 (by rw [Nat.mul_comm]; exact hMs)
      have hdm := Nat.div_add_mod (k + p) 4294967296
      have hr := Nat.mod_lt (k + p) (show 4294967296 > 0 by omega)
      have e1 : ((k + p : Nat) : Int) % 4294967296 = (((k + p) % 4294967296 : Nat) : Int) := by omega
      have e2 : ((k + p : Nat) : Int) / 4294967296 = (((k + p) / 4294967296 : Nat) : Int) := by omega
      generalize (k + p) / 4294967296 = q at *
      generalize (k + p) % 4294967296 = r at *
      have Hp := Lib.hid hp
      have Hdm := Lib.hid hdm
      generalize k + p = M at hor e1 e2 hM
      clear hp hdm hMs
      go_wp2_with (at_builtin; refine wpList_push eiU32 rfl (.tmp 25) (.tmp 28) rfl #[.int .u32 (r : Int)] rfl (by simp [Value.oneCell']) rfl rfl hO (by simp [maxLen]; omega) (by omega) hsz ?_)
      intro A3 c3 w3 ho3 hg3
      have hP3 := pu_push hP hO (Nat.le_refl _) hg3
      have ho4 := own_snoc ho3
      clear hO hg3 ho3 hsz hP
      go_wp2
      go_roundw
      case rel => exact ⟨j + 1, q, c3, A3, os ++ [r], by omega, rfl, rfl, by go_num, ho4, by simp [hol], hob.snoc hr, hq, by
        have h2 := scale_step HV.out (by rw [← Hp.out]; exact Hdm.out)
        rw [pval_snoc, hol, Nat.pow_succ, h2, take_next Hx.out, Nat.add_mul, Nat.mul_assoc], hP3⟩
      case measure => simp [intOf]; omega
    · obtain rfl : j = n := by omega
      have hkb : k < 4294967296 := Nat.lt_of_lt_of_le hk (show 2 ^ s ≤ 2 ^ 32 from Nat.pow_le_pow_right (by omega) (by omega))
      have hk32 : (k : Int) % 4294967296 = (k : Int) := by omega
      go_wp2_with (at_builtin; refine wpList_push eiU32 rfl (.tmp 33) (.tmp 36) rfl #[.int .u32 (k : Int)] rfl (by simp [Value.oneCell']) rfl rfl hO (by simp [maxLen]; omega) (by omega) hsz ?_)
      intro A3 c3 w3 ho3 hg3
      have hP3 := pu_push hP hO (Nat.le_refl _) hg3
      have ho4 := own_snoc ho3
      have hle3 := own_le ho4
      have hS3 := Sl.of_own ho4
      have hv3 : pval 4294967296 (os ++ [k]) = pval 4294967296 l * 2 ^ s := by
        have := HV.out
        rw [List.take_of_length_le (by omega)] at this
        rw [pval_snoc, hol, this]
      have Hv3 := Lib.hid hv3
      have HO4 := Lib.hid ho4
      clear hv3 hO hg3 ho3 ho4 hsz
      go_wp2
      go_ret
      exact ⟨A3, c3, os ++ [k], rfl, hle3.2, hS3, hob.snoc hkb, Hv3.out, hP3, _, HO4.out, rfl⟩
end
section
set_option linter.unusedVariables false
open Go.RowKit
theorem low_of_drop {l : List Nat} (hb : Below_ 4294967296 l) (j : Nat) : pval 4294967296 (l.drop j) % 4294967296 = l[j]?.getD 0 := by
  rcases Nat.lt_or_ge j l.length with h | h
  · rw [pval_drop_at (List.getElem?_eq_getElem h), List.getElem?_eq_getElem h]
    have := hb l[j] (List.getElem_mem h)
    simp only [Option.getD_some]
    omega
  · rw [List.drop_eq_nil_of_le h, List.getElem?_eq_none h]
    rfl
set_option maxHeartbeats 1500000 in
set_option maxRecDepth 100000 in
theorem back_any (A : Option Addr) (n c : Nat) (l : List Nat) (s : Nat) (w : World) (h : Sl w 1 A n c (wds l)) (hn : n ≤ 1000000) (hb : Below_ 4294967296 l) (hs : s ≤ 31) :
    Calls Tryz.prog 203 #[.slice A n c, .int .i64 (s : Int)] w fun e w' => ∃ A' n' c' q, e = .returned (.slice A' n' c') ∧ n' ≤ n ∧ c' ≤ maxLen ∧ Sl w' 1 A' n' c' (wds q) ∧ Below_ 4294967296 q ∧ Tidy q ∧ pval 4294967296 q = pval 4294967296 l / 2 ^ s ∧ Pu w w' := by
  have hl := h.wlen
  have hmk := fun W => run_make_words n n (by omega) (Nat.le_refl _) W
  have Hmk := Lib.hid hmk
  clear hmk
  have hW : Pu w (w.alloc (.cells (Array.replicate n (.int .u32 0)) 169)) := (Pu.refl w).alloc _
  have hA := WA.made w n
  go_enter Tryz.func203, Tryz.ntmps203
  go_wp2_with (simp only [Hmk.out])
  go_loopw [6, 7] (fun a v ws => ∃ (j k : Nat) (qs : List Nat), j ≤ n ∧ v = .int .i64 ((j : Int) - 1) ∧ a = .int .u64 (k : Int) ∧ k < 18446744073709551616 ∧ k % 4294967296 = pval 4294967296 (l.drop j) % 4294967296 ∧ Below_ 4294967296 qs ∧ j + qs.length = n ∧ pval 4294967296 qs = pval 4294967296 (l.drop j) / 2 ^ s ∧ WA ws w.heap.size (List.replicate j 0 ++ qs) ∧ Pu w ws) (fun _ v _ => (intOf v + 1).toNat)
  case atStart => exact ⟨n, 0, [], Nat.le_refl _, rfl, rfl, by omega, by rw [List.drop_eq_nil_of_le (by omega)]; rfl, Below_.nil _, by simp, by rw [List.drop_eq_nil_of_le (by omega)]; simp [pval], by simpa using hA, hW⟩
  case round =>
    obtain ⟨j, k, qs, hj, rfl, rfl, hk, hkm, hq, hlen, hv, hA, hP⟩ := hrel
    have HV := Lib.hid hv
    have HK := Lib.hid hkm
    clear hv hkm
    rcases j with _ | j
    · have hS : Sl wr 1 (some ⟨w.heap.size, 0, none⟩) n n (wds qs) := by
        have := hA.sl (n := n) (c := n) (by simp; omega) (Nat.le_refl _)
        rwa [List.replicate_zero, List.nil_append, List.take_of_length_le (by omega)] at this
      have hT := tidied_Sl hS
      have hle := tidied_len qs
      have fin := Lib.hid (And.intro (tidied_below hq) (And.intro (tidied_tidy qs) (tidied_val 4294967296 qs)))
      have HT := Lib.hid hT
      clear hT
      go_wp2_with fail
      refine (trim_any _ n n qs _ hS (by omega) (by simp [maxLen]; omega)).mono ?_
      rintro e w1 ⟨rfl, rfl⟩
      go_wp2
      go_ret
      exact ⟨some ⟨w.heap.size, 0, none⟩, (tidied qs).length, n, tidied qs, rfl, by omega, by simp [maxLen]; omega, HT.out, fin.out.1, fin.out.2.1, by rw [fin.out.2.2, HV.out]; rfl, hP⟩
    · obtain ⟨x, hx⟩ : ∃ x, l[j]? = some x := ⟨_, List.getElem?_eq_getElem (by omega)⟩
      have hxb := hb x (List.mem_of_getElem? hx)
      obtain ⟨b, o, ea, hbw, hc0⟩ := (h.pu hP).wat hx
      subst ea
      have Hx := Lib.hid hx
      clear hx
      have ej : ((j + 1 : Nat) : Int) - 1 = (j : Int) := by omega
      rw [ej]
      have hjn : j < n := by omega
      have hw1 : IntKind.i64.wrap ((j : Int) - 1) = (j : Int) - 1 := IntWalk.i64_in _ (by omega)
      have hx64 := u64_small (a := x) (by omega)
      have hsh : IntKind.u64.wrap ((k : Int) * 4294967296) = ((k % 4294967296 : Nat) : Int) * 4294967296 := by rw [IntKind.wrap_u64]; omega
      have hor := or_lo x (k % 4294967296) hxb (by omega)
      have hcast : ((k % 4294967296 : Nat) : Int) * 4294967296 + (x : Int) = ((k % 4294967296 * 4294967296 + x : Nat) : Int) := by omega
      rw [hcast] at hor
      have hMlt : k % 4294967296 * 4294967296 + x < 18446744073709551616 := by omega
      obtain ⟨km, hkm0⟩ : ∃ km, km = k % 4294967296 := ⟨_, rfl⟩
      rw [← hkm0] at hor hsh hMlt
      obtain ⟨M, hM⟩ : ∃ M, M = km * 4294967296 + x := ⟨_, rfl⟩
      rw [← hM] at hor hMlt
      have HM := Lib.hid hM
      have Hkm := Lib.hid hkm0
      have hg0 : wr.cell? ⟨w.heap.size, j, none⟩ = some (.int .u32 0) := by
        have := hA.cell (j := j) (x := 0) (by rw [List.getElem?_append_left (by simp)]; simp)
        simpa using this
      have hf0 := hA.frozen j
      clear hcast hM hkm0
      go_wp2
      have e1 : (M : Int) / 2 ^ s % 4294967296 = ((M / 2 ^ s % 4294967296 : Nat) : Int) := by
        rw [show (2 : Int) ^ s = ((2 ^ s : Nat) : Int) by simp]
        simp
      rw [e1]
      clear e1
      have hy : M / 2 ^ s % 4294967296 < 4294967296 := Nat.mod_lt _ (by omega)
      have hkd : km = pval 4294967296 (l.drop (j + 1)) % 4294967296 := by rw [Hkm.out, HK.out]
      have hbs := back_step (n := s) (x := x) (R := pval 4294967296 (l.drop (j + 1))) (by omega) hxb
      rw [← hkd, ← HM.out] at hbs
      generalize M / 2 ^ s % 4294967296 = y at *
      have hA2 := hA.set_ j y
      rw [set_fill] at hA2
      go_roundw
      case rel => exact ⟨j, M, y :: qs, by omega, rfl, rfl, hMlt, by
        rw [pval_drop_at Hx.out, HM.out]
        omega, by
        intro u hu
        rcases List.mem_cons.1 hu with rfl | hu
        · exact hy
        · exact hq u hu, by simp; omega, by
        rw [pval_drop_at Hx.out, hbs]
        simp only [pval]
        rw [HV.out], hA2, hP.setCell (Nat.le_refl _) _⟩
      case measure => simp [intOf]
set_option maxHeartbeats 1500000 in
set_option maxRecDepth 100000 in
theorem guess_any (hi mid low top next : Nat) (w : World) (h1 : hi ≤ top) (h2 : mid < 4294967296) (h3 : low < 4294967296) (h4 : top < 4294967296) (h5 : next < 4294967296) (h0 : 0 < top) :
    Calls Tryz.prog 200 #[.int .u64 (hi : Int), .int .u64 (mid : Int), .int .u64 (low : Int), .int .u64 (top : Int), .int .u64 (next : Int)] w fun e w' => ∃ q : Nat, e = .returned (.int .u64 (q : Int)) ∧ q < 4294967296 ∧ q * (top * 4294967296 + next) ≤ (hi * 4294967296 + mid) * 4294967296 + low ∧ (q = 4294967295 ∨ (hi * 4294967296 + mid) * 4294967296 + low < (q + 1) * (top * 4294967296 + next)) ∧ Pu w w' := by
  have hw1 : IntKind.u64.wrap ((mid : Int) + (top : Int)) = (mid : Int) + (top : Int) := by rw [IntKind.wrap_u64]; omega
  have hsh := u64_shl (a := hi) (by omega)
  have hor := or_lo mid hi h2 (by omega)
  have ht0 : ¬ ((top : Int) = 0) := by omega
  have hcast : (hi : Int) * 4294967296 + (mid : Int) = ((hi * 4294967296 + mid : Nat) : Int) := by omega
  rw [hcast] at hor
  obtain ⟨U, hU⟩ : ∃ U, U = hi * 4294967296 + mid := ⟨_, rfl⟩
  rw [← hU] at hor
  have HU := Lib.hid hU
  clear hcast hU
  rcases Nat.lt_or_ge hi top with hlt | hge
  · go_enter Tryz.func200, Tryz.ntmps200
    go_wp2_with fail
    go_region
    go_wp2_with fail
    go_loopw [11, 12] (fun qv rv ws => ∃ q r : Nat, qv = .int .u64 (q : Int) ∧ rv = .int .u64 (r : Int) ∧ q < 4294967296 ∧ r < 8589934592 ∧ q * top + r = U ∧ (q = 4294967295 ∨ U * 4294967296 + low < (q + 1) * (top * 4294967296 + next)) ∧ Pu w ws) (fun _ rv _ => 8589934592 - (intOf rv).toNat)
    case atStart =>
      have hdm := Nat.div_add_mod U top
      have hml := Nat.mod_lt U h0
      have hql : U / top < 4294967296 := (Nat.div_lt_iff_lt_mul h0).2 (by
        rw [HU.out]
        have : (hi + 1) * 4294967296 ≤ top * 4294967296 := Nat.mul_le_mul_right _ hlt
        rw [Nat.mul_comm]
        omega)
      exact ⟨U / top, U % top, by rw [show (U : Int) / (top : Int) = ((U / top : Nat) : Int) by simp, u64_small (by omega)], by simp, hql, by omega, by rw [Nat.mul_comm]; exact hdm, .inr (guess_start rfl rfl h3 (by
        rw [Nat.add_mul, Nat.one_mul, Nat.mul_comm]
        omega)), (Pu.refl w).drew⟩
    case round =>
      obtain ⟨q, r, rfl, rfl, hq, hr, hinv, hor2, hP⟩ := hrel
      have Hinv := Lib.hid hinv
      have Hor2 := Lib.hid hor2
      have hgr := guess_round (next := next) (low := low) (V := top * 4294967296 + next) (U3 := U * 4294967296 + low) rfl rfl hinv
      have Hgr := Lib.hid hgr
      clear hinv hor2 hgr hor
      obtain ⟨p, hp⟩ : ∃ p, p = q * next := ⟨_, rfl⟩
      have hpi : (q : Int) * (next : Int) = (p : Int) := by rw [hp, Int.natCast_mul]
      have hfit := mul_fits (c := 0) (o := 0) hq h5 (by omega) (by omega)
      rw [← hp] at hfit
      have hpB : p ≤ 4294967295 * 4294967295 := by rw [hp]; exact Nat.mul_le_mul (by omega) (by omega)
      have hp64 := u64_small (a := p) (by omega)
      have HP := Lib.hid hp
      clear hp
      by_cases hrB : r < 4294967296
      · have d1 : decide ((r : Int) < 4294967296) = true := by simp; omega
        have hsr := u64_shl (a := r) (by omega)
        have horr := or_lo low r h3 (by omega)
        have hcr : (r : Int) * 4294967296 + (low : Int) = ((r * 4294967296 + low : Nat) : Int) := by omega
        rw [hcr] at horr
        obtain ⟨R, hR⟩ : ∃ R, R = r * 4294967296 + low := ⟨_, rfl⟩
        rw [← hR] at horr
        have HR := Lib.hid hR
        clear hcr
        by_cases hgt : R < p
        · have d2 : decide ((p : Int) > (R : Int)) = true := by simp; omega
          have d3 : decide ((R : Int) < (p : Int)) = true := by simp; omega
          have hq0 : 0 < q := by
            rcases Nat.eq_zero_or_pos q with e | e
            · subst e
              have := HP.out
              simp at this
              omega
            · exact e
          have hwq : IntKind.u64.wrap ((q : Int) - 1) = ((q - 1 : Nat) : Int) := by rw [IntKind.wrap_u64]; omega
          have hwr : IntKind.u64.wrap ((r : Int) + (top : Int)) = ((r + top : Nat) : Int) := by rw [IntKind.wrap_u64]; omega
          clear hR
          go_wp2
          go_roundw
          case rel => exact ⟨q - 1, r + top, rfl, rfl, by omega, by omega, by
            have := Hinv.out
            obtain ⟨k, rfl⟩ : ∃ k, q = k + 1 := ⟨q - 1, by omega⟩
            rw [Nat.add_mul] at this
            rw [Nat.add_sub_cancel]
            omega, .inr (by
            rw [show q - 1 + 1 = q by omega]
            have h7 := Hgr.out
            rw [← HP.out, ← HR.out] at h7
            omega), hP⟩
          case measure => simp [intOf]; omega
        · have d2 : decide ((p : Int) > (R : Int)) = false := by simp; omega
          have d3 : decide ((R : Int) < (p : Int)) = false := by simp; omega
          clear hR
          go_wp2
          go_ret
          exact ⟨q, rfl, hq, by
            rw [← HU.out]
            have h7 := Hgr.out
            rw [← HP.out, ← HR.out] at h7
            exact h7.1 (by omega), by rw [← HU.out]; exact Hor2.out, hP⟩
      · have d1 : decide ((r : Int) < 4294967296) = false := by simp; omega
        go_wp2
        go_ret
        exact ⟨q, rfl, hq, by
          rw [← HU.out]
          have h7 := Hgr.out
          rw [← HP.out] at h7
          exact h7.1 (by omega), by rw [← HU.out]; exact Hor2.out, hP⟩
  · obtain rfl : hi = top := by omega
    go_enter Tryz.func200, Tryz.ntmps200
    go_wp2_with fail
    go_loopw [11, 12] (fun qv rv ws => ∃ q r : Nat, qv = .int .u64 (q : Int) ∧ rv = .int .u64 (r : Int) ∧ q < 4294967296 ∧ r < 8589934592 ∧ q * hi + r = U ∧ (q = 4294967295 ∨ U * 4294967296 + low < (q + 1) * (hi * 4294967296 + next)) ∧ Pu w ws) (fun _ rv _ => 8589934592 - (intOf rv).toNat)
    case atStart => exact ⟨4294967295, mid + hi, rfl, by simp, by omega, by omega, by rw [HU.out]; omega, .inl rfl, Pu.refl w⟩
    case round =>
      obtain ⟨q, r, rfl, rfl, hq, hr, hinv, hor2, hP⟩ := hrel
      have Hinv := Lib.hid hinv
      have Hor2 := Lib.hid hor2
      have hgr := guess_round (next := next) (low := low) (V := hi * 4294967296 + next) (U3 := U * 4294967296 + low) rfl rfl hinv
      have Hgr := Lib.hid hgr
      clear hinv hor2 hgr hor
      obtain ⟨p, hp⟩ : ∃ p, p = q * next := ⟨_, rfl⟩
      have hpi : (q : Int) * (next : Int) = (p : Int) := by rw [hp, Int.natCast_mul]
      have hfit := mul_fits (c := 0) (o := 0) hq h5 (by omega) (by omega)
      rw [← hp] at hfit
      have hpB : p ≤ 4294967295 * 4294967295 := by rw [hp]; exact Nat.mul_le_mul (by omega) (by omega)
      have hp64 := u64_small (a := p) (by omega)
      have HP := Lib.hid hp
      clear hp
      by_cases hrB : r < 4294967296
      · have d1 : decide ((r : Int) < 4294967296) = true := by simp; omega
        have hsr := u64_shl (a := r) (by omega)
        have horr := or_lo low r h3 (by omega)
        have hcr : (r : Int) * 4294967296 + (low : Int) = ((r * 4294967296 + low : Nat) : Int) := by omega
        rw [hcr] at horr
        obtain ⟨R, hR⟩ : ∃ R, R = r * 4294967296 + low := ⟨_, rfl⟩
        rw [← hR] at horr
        have HR := Lib.hid hR
        clear hcr
        by_cases hgt : R < p
        · have d2 : decide ((p : Int) > (R : Int)) = true := by simp; omega
          have d3 : decide ((R : Int) < (p : Int)) = true := by simp; omega
          have hq0 : 0 < q := by
            rcases Nat.eq_zero_or_pos q with e | e
            · subst e
              have := HP.out
              simp at this
              omega
            · exact e
          have hwq : IntKind.u64.wrap ((q : Int) - 1) = ((q - 1 : Nat) : Int) := by rw [IntKind.wrap_u64]; omega
          have hwr : IntKind.u64.wrap ((r : Int) + (hi : Int)) = ((r + hi : Nat) : Int) := by rw [IntKind.wrap_u64]; omega
          clear hR
          go_wp2
          go_roundw
          case rel => exact ⟨q - 1, r + hi, rfl, rfl, by omega, by omega, by
            have := Hinv.out
            obtain ⟨k, rfl⟩ : ∃ k, q = k + 1 := ⟨q - 1, by omega⟩
            rw [Nat.add_mul] at this
            rw [Nat.add_sub_cancel]
            omega, .inr (by
            rw [show q - 1 + 1 = q by omega]
            have h7 := Hgr.out
            rw [← HP.out, ← HR.out] at h7
            omega), hP⟩
          case measure => simp [intOf]; omega
        · have d2 : decide ((p : Int) > (R : Int)) = false := by simp; omega
          have d3 : decide ((R : Int) < (p : Int)) = false := by simp; omega
          clear hR
          go_wp2
          go_ret
          exact ⟨q, rfl, hq, by
            rw [← HU.out]
            have h7 := Hgr.out
            rw [← HP.out, ← HR.out] at h7
            exact h7.1 (by omega), by rw [← HU.out]; exact Hor2.out, hP⟩
      · have d1 : decide ((r : Int) < 4294967296) = false := by simp; omega
        go_wp2
        go_ret
        exact ⟨q, rfl, hq, by
          rw [← HU.out]
          have h7 := Hgr.out
          rw [← HP.out] at h7
          exact h7.1 (by omega), by rw [← HU.out]; exact Hor2.out, hP⟩
end
section
set_option linter.unusedVariables false
open Go.RowKit
/- zed: take, give. -/
def XA (w : World) (g : Nat) (o : List Nat) : Prop := ∃ ys : List Value, Blk w g 169 (wds o ++ ys).toArray
section
variable {w w' : World} {g : Nat} {o : List Nat}
theorem XA.cell (h : XA w g o) {j x : Nat} (hj : o[j]? = some x) : w.cell? ⟨g, j, none⟩ = some (.int .u32 (x : Int)) := by
  obtain ⟨ys, h⟩ := h
  have hl := (List.getElem?_eq_some_iff.1 hj).1
  rw [Blk.cell h j, List.getElem?_toArray, List.getElem?_append_left (by simpa using hl), List.getElem?_map, hj]
  rfl
theorem XA.frozen (h : XA w g o) (j : Nat) : w.frozen? ⟨g, j, none⟩ = false := by
  obtain ⟨ys, h⟩ := h
  exact h.frozen j
theorem XA.set_ (h : XA w g o) {j : Nat} (hj : j < o.length) (y : Nat) : XA (w.setCell ⟨g, j, none⟩ (.int .u32 (y : Int))) g (o.set j y) := by
  obtain ⟨ys, h⟩ := h
  refine ⟨ys, ?_⟩
  have := Blk.set_ h j (.int .u32 (y : Int))
  have e : (wds o ++ ys).toArray.setIfInBounds j (.int .u32 (y : Int)) = (wds (o.set j y) ++ ys).toArray := by
    simp [List.map_set, List.set_append_left _ _ (show j < (o.map fun x : Nat => Value.int .u32 (x : Int)).length by simpa using hj)]
  rw [e] at this
  exact this
theorem XA.pu (h : XA w g o) (hf : Pu w w') : XA w' g o := by
  obtain ⟨ys, h⟩ := h
  exact ⟨ys, h.pu hf⟩
theorem XA.fr {S : Nat → Prop} (h : XA w g o) (hf : Fr S w w') (hs : ¬ S g) : XA w' g o := by
  obtain ⟨ys, h⟩ := h
  exact ⟨ys, h.fr hf hs⟩
theorem XA.lt (h : XA w g o) : g < w.heap.size := by
  obtain ⟨ys, h⟩ := h
  exact h.lt
theorem XA.sl (h : XA w g o) {n c : Nat} (hn : n = o.length) (hc : n ≤ c) : Sl w 1 (some ⟨g, 0, none⟩) n c (wds o) := by
  refine ⟨by simp; omega, hc, fun _ => ⟨g, 0, rfl, h.lt, fun j u hu => ?_⟩⟩
  rw [List.getElem?_map] at hu
  cases hj : o[j]? with
  | none => rw [hj] at hu; cases hu
  | some x =>
    rw [hj] at hu
    injection hu with hu
    rw [Nat.zero_add, h.cell hj, ← hu]
theorem XA.of_own {base n c : Nat} {A : Option Addr} (h : w.ownsRow base 169 1 (.slice A n c) n (wds o)) (hn : 0 < n) : ∃ g, A = some ⟨g, 0, none⟩ ∧ base ≤ g ∧ XA w g o := by
  rcases h.2 with ⟨_, h0⟩ | ⟨g, cap, cur, hv, hb, hg, _, _, _, ht⟩
  · omega
  · injection hv with hA _ _
    refine ⟨g, hA, hb, cur.toList.drop (n * 1), ?_⟩
    unfold Blk
    rw [← ht, List.take_append_drop]
    simpa using hg
end
theorem mid_get (P Q : List Nat) (a : Nat) : (P ++ a :: Q)[P.length]? = some a := by simp
theorem mid_set (P Q : List Nat) (a r : Nat) : (P ++ a :: Q).set P.length r = P ++ r :: Q := by simp
set_option maxHeartbeats 2000000 in
set_option maxRecDepth 100000 in
theorem take_any (gx nx cx : Nat) (lo sg hi : List Nat) (C : Option Addr) (m d : Nat) (ys : List Nat) (at_ q : Nat) (w : World) (hX : XA w gx (lo ++ (sg ++ hi))) (hnx : nx = (lo ++ (sg ++ hi)).length) (hncx : nx ≤ cx) (hn : nx ≤ 100000) (hlo : lo.length = at_) (hsg : sg.length = m + 1)
    (hY : Sl w 1 C m d (wds ys)) (hne : ∀ b off, C = some ⟨b, off, none⟩ → b ≠ gx) (hbs : Below_ 4294967296 sg) (hby : Below_ 4294967296 ys) (hq : q < 4294967296) :
    Calls Tryz.prog 201 #[.slice (some ⟨gx, 0, none⟩) nx cx, .slice C m d, .int .i64 (at_ : Int), .int .u64 (q : Int)] w fun e w' => ∃ (b : Bool) (sg' : List Nat), e = .returned (.bool b) ∧ XA w' gx (lo ++ (sg' ++ hi)) ∧ sg'.length = m + 1 ∧ Below_ 4294967296 sg' ∧ pval 4294967296 sg' + q * pval 4294967296 ys = pval 4294967296 sg + 4294967296 ^ (m + 1) * b.toNat ∧ Fr (fun k => k = gx) w w' := by
  have lys := hY.wlen
  have hnm : at_ + m + 1 ≤ nx := by rw [hnx]; simp; omega
  have HNX := Lib.hid hnx
  clear hnx
  go_enter Tryz.func201, Tryz.ntmps201
  go_wp2_with fail
  go_loopw [9, 10, 15] (fun cv lv iv ws => ∃ (i c l : Nat) (ns : List Nat), i ≤ m ∧ cv = .int .u64 (c : Int) ∧ lv = .int .u32 (l : Int) ∧ iv = .int .i64 (i : Int) ∧ c < 4294967296 ∧ l ≤ 1 ∧ ns.length = i ∧ Below_ 4294967296 ns ∧ pval 4294967296 ns + q * pval 4294967296 (ys.take i) = pval 4294967296 (sg.take i) + 4294967296 ^ i * (c + l) ∧ XA ws gx ((lo ++ ns) ++ (sg.drop i ++ hi)) ∧ Fr (fun k => k = gx) w ws) (fun _ _ iv _ => m - (intOf iv).toNat)
  case atStart => exact ⟨0, 0, 0, [], Nat.zero_le _, rfl, rfl, rfl, by omega, by omega, rfl, Below_.nil _, by simp [pval], by simpa using hX, Fr.refl _ _⟩
  case round =>
    clear hX
    obtain ⟨i, c, l, ns, hi', rfl, rfl, rfl, hc, hl, hnl, hnb, hv, hX, hF⟩ := hrel
    have HV := Lib.hid hv
    clear hv
    obtain ⟨o, ho⟩ : ∃ o, sg[i]? = some o := ⟨_, List.getElem?_eq_getElem (by omega)⟩
    have hob := hbs o (List.mem_of_getElem? ho)
    have hdr : sg.drop i = o :: sg.drop (i + 1) := by
      have hj := (List.getElem?_eq_some_iff.1 ho).1
      rw [List.drop_eq_getElem_cons hj]
      congr 1
      exact (List.getElem?_eq_some_iff.1 ho).2
    rw [hdr] at hX
    have hPl : (lo ++ ns).length = at_ + i := by rw [List.length_append]; omega
    have hcell : wr.cell? ⟨gx, at_ + i, none⟩ = some (.int .u32 (o : Int)) := hX.cell (by rw [← hPl]; exact mid_get (lo ++ ns) _ o)
    have hfz := hX.frozen (at_ + i)
    have hset : ∀ r : Nat, XA (wr.setCell ⟨gx, at_ + i, none⟩ (.int .u32 (r : Int))) gx ((lo ++ ns) ++ r :: (sg.drop (i + 1) ++ hi)) := fun r => by
      have h1 := hX.set_ (j := at_ + i) (by rw [List.length_append, hPl]; simp) r
      have h2 := mid_set (lo ++ ns) (sg.drop (i + 1) ++ hi) o r
      rw [hPl] at h2
      rw [List.cons_append, h2] at h1
      exact h1
    have Hset := Lib.hid hset
    have Ho := Lib.hid ho
    have hwi : IntKind.i64.wrap ((at_ : Int) + (i : Int)) = (at_ : Int) + (i : Int) := IntWalk.i64_in _ (by omega)
    have hi0 : (0 : Int) ≤ (at_ : Int) + (i : Int) := by omega
    have hi1 : (at_ : Int) + (i : Int) < (nx : Int) := by omega
    clear hset ho hdr hX
    by_cases hlt : i < m
    · obtain ⟨x, hx⟩ : ∃ x, ys[i]? = some x := ⟨_, List.getElem?_eq_getElem (by omega)⟩
      have hxb := hby x (List.mem_of_getElem? hx)
      obtain ⟨b1, o1, ea, hb1, c1⟩ := (hY.fr hF (fun _ b off e e1 => hne b off e e1)).wat hx
      have Hx := Lib.hid hx
      clear hx
      subst ea
      have hfit := mul_fits hxb hq hc (o := 0) (by omega)
      have hpB : x * q ≤ 4294967295 * 4294967295 := Nat.mul_le_mul (by omega) (by omega)
      obtain ⟨p, hp⟩ : ∃ p, p = x * q := ⟨_, rfl⟩
      have hpi : (x : Int) * (q : Int) = (p : Int) := by rw [hp, Int.natCast_mul]
      rw [← hp] at hfit hpB
      have hdm := Nat.div_add_mod (c + p) 4294967296
      have hlow := Nat.mod_lt (c + p) (show 4294967296 > 0 by omega)
      have hci : (c + p) / 4294967296 < 4294967296 := by omega
      have e1 : ((c : Int) + (p : Int)) % 4294967296 = (((c + p) % 4294967296 : Nat) : Int) := by omega
      have e2 : ((c : Int) + (p : Int)) / 4294967296 = (((c + p) / 4294967296 : Nat) : Int) := by omega
      have Hp := Lib.hid hp
      generalize (c + p) / 4294967296 = ci at *
      generalize (c + p) % 4294967296 = low at *
      have Hdm := Lib.hid hdm
      have hx64 := u64_small (a := x) (by omega)
      have hp64 := u64_small (a := p) (by omega)
      have hm2 : IntKind.u64.wrap ((c : Int) + (p : Int)) = (c : Int) + (p : Int) := by rw [IntKind.wrap_u64]; omega
      clear hp hdm
      go_wp2_with fail
      refine (sub32_any o low l _ hob hlow hl).mono ?_
      rintro e w1 ⟨rfl, rfl⟩
      obtain ⟨l', hl'⟩ : ∃ l', l' = (if o < low + l then 1 else 0) := ⟨_, rfl⟩
      obtain ⟨r, hr⟩ : ∃ r, r = (o + 4294967296 - low - l) % 4294967296 := ⟨_, rfl⟩
      rw [← hl', ← hr]
      have hl1 : l' ≤ 1 ∧ r < 4294967296 ∧ r + low + l = o + 4294967296 * l' := by
        rw [hl', hr]
        split <;> omega
      have HL := Lib.hid hl1
      clear hl' hr hl1
      go_wp2
      go_roundw
      case rel => exact ⟨i + 1, ci, l', ns ++ [r], by omega, rfl, rfl, by go_num, hci, HL.out.1, by simp [hnl], hnb.snoc HL.out.2.1, by
        have h5 := take_step (w := x) HV.out (by rw [← Hp.out]; exact Hdm.out) HL.out.2.2
        rw [pval_snoc, hnl, pval_take_succ Hx.out, pval_take_succ Ho.out, Nat.pow_succ]
        exact h5, by
        have h6 := Hset.out r
        rw [← List.append_assoc lo, List.append_assoc (lo ++ ns)]
        exact h6, hF.trans (Fr.one _ gx _ _)⟩
      case measure => simp [intOf]; omega
    · obtain rfl : i = m := by omega
      have hc32 : (c : Int) % 4294967296 = (c : Int) := by omega
      go_wp2_with fail
      refine (sub32_any o c l _ hob hc hl).mono ?_
      rintro e w1 ⟨rfl, rfl⟩
      obtain ⟨l', hl'⟩ : ∃ l', l' = (if o < c + l then 1 else 0) := ⟨_, rfl⟩
      obtain ⟨r, hr⟩ : ∃ r, r = (o + 4294967296 - c - l) % 4294967296 := ⟨_, rfl⟩
      rw [← hl', ← hr]
      have hl1 : (l' = 0 ∨ l' = 1) ∧ r < 4294967296 ∧ r + c + l = o + 4294967296 * l' := by
        rw [hl', hr]
        split <;> omega
      have hfin : pval 4294967296 (ns ++ [r]) + q * pval 4294967296 ys = pval 4294967296 sg + 4294967296 ^ (i + 1) * l' := by
        have h1 := HV.out
        rw [List.take_of_length_le (by omega)] at h1
        have h2 : pval 4294967296 sg = pval 4294967296 (sg.take i) + 4294967296 ^ i * o := by
          rw [← pval_take_succ Ho.out, List.take_of_length_le (by omega)]
        rw [pval_snoc, hnl, h2, Nat.pow_succ]
        have h3 : 4294967296 ^ i * (r + c + l) = 4294967296 ^ i * (o + 4294967296 * l') := by rw [hl1.2.2]
        simp only [Nat.mul_add, ← Nat.mul_assoc] at h3 h1 ⊢
        omega
      have Hfin := Lib.hid hfin
      have hXf := Hset.out r
      have hXf2 : XA (wr.setCell ⟨gx, at_ + i, none⟩ (.int .u32 (r : Int))) gx (lo ++ ((ns ++ [r]) ++ hi)) := by
        rw [show sg.drop (i + 1) = [] from List.drop_eq_nil_of_le (by omega), List.nil_append] at hXf
        rw [List.append_assoc ns, ← List.append_assoc lo]
        exact hXf
      have HX2 := Lib.hid hXf2
      have hnb2 := hnb.snoc hl1.2.1
      have hFf := hF.trans (Fr.one wr gx (at_ + i) (.int .u32 (r : Int)))
      have hll := hl1.1
      clear hXf hXf2 hfin hl1 hl' hr Hset
      rcases hll with rfl | rfl
      · go_wp2
        go_ret
        exact ⟨false, ns ++ [r], rfl, HX2.out, by simp [hnl], hnb2, Hfin.out, hFf⟩
      · go_wp2
        go_ret
        exact ⟨true, ns ++ [r], rfl, HX2.out, by simp [hnl], hnb2, Hfin.out, hFf⟩
/- zed: give; the sums behind a place of a long division. -/
set_option maxHeartbeats 2000000 in
set_option maxRecDepth 100000 in
theorem give_any (gx nx cx : Nat) (lo sg hi : List Nat) (C : Option Addr) (m d : Nat) (ys : List Nat) (at_ : Nat) (w : World) (hX : XA w gx (lo ++ (sg ++ hi))) (hnx : nx = (lo ++ (sg ++ hi)).length) (hncx : nx ≤ cx) (hn : nx ≤ 100000) (hlo : lo.length = at_) (hsg : sg.length = m + 1)
    (hY : Sl w 1 C m d (wds ys)) (hne : ∀ b off, C = some ⟨b, off, none⟩ → b ≠ gx) (hbs : Below_ 4294967296 sg) (hby : Below_ 4294967296 ys) :
    Calls Tryz.prog 202 #[.slice (some ⟨gx, 0, none⟩) nx cx, .slice C m d, .int .i64 (at_ : Int)] w fun e w' => ∃ (b : Nat) (sg' : List Nat), e = .returned (.tuple #[]) ∧ XA w' gx (lo ++ (sg' ++ hi)) ∧ sg'.length = m + 1 ∧ Below_ 4294967296 sg' ∧ pval 4294967296 sg' + 4294967296 ^ (m + 1) * b = pval 4294967296 sg + pval 4294967296 ys ∧ Fr (fun k => k = gx) w w' := by
  have lys := hY.wlen
  have hnm : at_ + m + 1 ≤ nx := by rw [hnx]; simp; omega
  have HNX := Lib.hid hnx
  clear hnx
  go_enter Tryz.func202, Tryz.ntmps202
  go_wp2_with fail
  go_loopw [6, 11] (fun cv iv ws => ∃ (i c : Nat) (ns : List Nat), i ≤ m ∧ cv = .int .u32 (c : Int) ∧ iv = .int .i64 (i : Int) ∧ c ≤ 1 ∧ ns.length = i ∧ Below_ 4294967296 ns ∧ pval 4294967296 ns + 4294967296 ^ i * c = pval 4294967296 (sg.take i) + pval 4294967296 (ys.take i) ∧ XA ws gx ((lo ++ ns) ++ (sg.drop i ++ hi)) ∧ Fr (fun k => k = gx) w ws) (fun _ iv _ => m - (intOf iv).toNat)
  case atStart => exact ⟨0, 0, [], Nat.zero_le _, rfl, rfl, by omega, rfl, Below_.nil _, by simp [pval], by simpa using hX, Fr.refl _ _⟩
  case round =>
    clear hX
    obtain ⟨i, c, ns, hi', rfl, rfl, hc, hnl, hnb, hv, hX, hF⟩ := hrel
    have HV := Lib.hid hv
    clear hv
    obtain ⟨o, ho⟩ : ∃ o, sg[i]? = some o := ⟨_, List.getElem?_eq_getElem (by omega)⟩
    have hob := hbs o (List.mem_of_getElem? ho)
    have hdr : sg.drop i = o :: sg.drop (i + 1) := by
      have hj := (List.getElem?_eq_some_iff.1 ho).1
      rw [List.drop_eq_getElem_cons hj]
      congr 1
      exact (List.getElem?_eq_some_iff.1 ho).2
    rw [hdr] at hX
    have hPl : (lo ++ ns).length = at_ + i := by rw [List.length_append]; omega
    have hcell : wr.cell? ⟨gx, at_ + i, none⟩ = some (.int .u32 (o : Int)) := hX.cell (by rw [← hPl]; exact mid_get (lo ++ ns) _ o)
    have hfz := hX.frozen (at_ + i)
    have hset : ∀ r : Nat, XA (wr.setCell ⟨gx, at_ + i, none⟩ (.int .u32 (r : Int))) gx ((lo ++ ns) ++ r :: (sg.drop (i + 1) ++ hi)) := fun r => by
      have h1 := hX.set_ (j := at_ + i) (by rw [List.length_append, hPl]; simp) r
      have h2 := mid_set (lo ++ ns) (sg.drop (i + 1) ++ hi) o r
      rw [hPl] at h2
      rw [List.cons_append, h2] at h1
      exact h1
    have Hset := Lib.hid hset
    have Ho := Lib.hid ho
    have hwi : IntKind.i64.wrap ((at_ : Int) + (i : Int)) = (at_ : Int) + (i : Int) := IntWalk.i64_in _ (by omega)
    have hi0 : (0 : Int) ≤ (at_ : Int) + (i : Int) := by omega
    have hi1 : (at_ : Int) + (i : Int) < (nx : Int) := by omega
    clear hset ho hdr hX
    by_cases hlt : i < m
    · obtain ⟨x, hx⟩ : ∃ x, ys[i]? = some x := ⟨_, List.getElem?_eq_getElem (by omega)⟩
      have hxb := hby x (List.mem_of_getElem? hx)
      obtain ⟨b1, o1, ea, hb1, c1⟩ := (hY.fr hF (fun _ b off e e1 => hne b off e e1)).wat hx
      have Hx := Lib.hid hx
      clear hx
      subst ea
      go_wp2_with fail
      refine (add32_any o x c _ hob hxb hc).mono ?_
      rintro e w1 ⟨rfl, rfl⟩
      have hdm := Nat.div_add_mod (o + x + c) 4294967296
      have hr := Nat.mod_lt (o + x + c) (show 4294967296 > 0 by omega)
      have hq : (o + x + c) / 4294967296 ≤ 1 := by omega
      generalize (o + x + c) / 4294967296 = q at *
      generalize (o + x + c) % 4294967296 = r at *
      have Hdm := Lib.hid hdm
      clear hdm
      go_wp2
      go_roundw
      case rel => exact ⟨i + 1, q, ns ++ [r], by omega, rfl, by go_num, hq, by simp [hnl], hnb.snoc hr, by
        rw [pval_snoc, hnl, pval_take_succ Hx.out, pval_take_succ Ho.out, Nat.pow_succ]
        have h5 := carry_step HV.out (v := o + x) Hdm.out
        rw [Nat.mul_add] at h5
        omega, by
        have h6 := Hset.out r
        rw [← List.append_assoc lo, List.append_assoc (lo ++ ns)]
        exact h6, hF.trans (Fr.one _ gx _ _)⟩
      case measure => simp [intOf]; omega
    · obtain rfl : i = m := by omega
      have hdm := Nat.div_add_mod (o + c) 4294967296
      have hr := Nat.mod_lt (o + c) (show 4294967296 > 0 by omega)
      have hwr : IntKind.u32.wrap ((o : Int) + (c : Int)) = (((o + c) % 4294967296 : Nat) : Int) := by rw [IntKind.wrap_u32]; omega
      have hwr2 : ((o : Int) + (c : Int)) % 4294967296 = (((o + c) % 4294967296 : Nat) : Int) := by omega
      generalize (o + c) / 4294967296 = q at *
      generalize (o + c) % 4294967296 = r at *
      have hfin : pval 4294967296 (ns ++ [r]) + 4294967296 ^ (i + 1) * q = pval 4294967296 sg + pval 4294967296 ys := by
        have h1 := HV.out
        rw [List.take_of_length_le (l := ys) (by omega)] at h1
        have h2 : pval 4294967296 sg = pval 4294967296 (sg.take i) + 4294967296 ^ i * o := by
          rw [← pval_take_succ Ho.out, List.take_of_length_le (by omega)]
        rw [pval_snoc, hnl, h2, Nat.pow_succ]
        have h5 := carry_step h1 (v := o) hdm
        omega
      have Hfin := Lib.hid hfin
      have hXf := Hset.out r
      have hXf2 : XA (wr.setCell ⟨gx, at_ + i, none⟩ (.int .u32 (r : Int))) gx (lo ++ ((ns ++ [r]) ++ hi)) := by
        rw [show sg.drop (i + 1) = [] from List.drop_eq_nil_of_le (by omega), List.nil_append] at hXf
        rw [List.append_assoc ns, ← List.append_assoc lo]
        exact hXf
      have HX2 := Lib.hid hXf2
      have hnb2 := hnb.snoc hr
      have hFf := hF.trans (Fr.one wr gx (at_ + i) (.int .u32 (r : Int)))
      clear hXf hXf2 hfin hdm Hset
      go_wp2
      refine bodyPost_end (results_none rfl _ _ _) rfl ?_
      exact ⟨q, ns ++ [r], rfl, HX2.out, by simp [hnl], hnb2, Hfin.out, hFf⟩
theorem sub_pow {P y n : Nat} (h : y < P) : y < P * (n + 1) := Nat.lt_of_lt_of_le h (Nat.le_mul_of_pos_right _ (by omega))
theorem long_place (xs ys : List Nat) (at_ m hi mid low top next : Nat) (hx : Below_ 4294967296 xs) (hy : Below_ 4294967296 ys) (hm : 2 ≤ m) (hly : ys.length = m) (hN : at_ + m < xs.length) (hr : pval 4294967296 (xs.drop (at_ + 1)) < pval 4294967296 ys) (htop : 0 < top)
    (h1 : xs[at_ + m]? = some hi) (h2 : xs[at_ + m - 1]? = some mid) (h3 : xs[at_ + m - 2]? = some low) (h4 : ys[m - 1]? = some top) (h5 : ys[m - 2]? = some next) :
    ∃ lo sg h', xs = lo ++ (sg ++ h') ∧ lo.length = at_ ∧ sg.length = m + 1 ∧ Below_ 4294967296 sg ∧ pval 4294967296 h' = 0 ∧ pval 4294967296 (xs.drop at_) = pval 4294967296 sg ∧ pval 4294967296 sg < 4294967296 * pval 4294967296 ys ∧ pval 4294967296 sg < 4294967296 ^ (m + 1) ∧ hi ≤ top ∧
      (top * 4294967296 + next) * 4294967296 ^ (m - 2) ≤ pval 4294967296 ys ∧ pval 4294967296 ys < (top * 4294967296 + next + 1) * 4294967296 ^ (m - 2) ∧
      ((hi * 4294967296 + mid) * 4294967296 + low) * 4294967296 ^ (m - 2) ≤ pval 4294967296 sg ∧ pval 4294967296 sg < ((hi * 4294967296 + mid) * 4294967296 + low + 1) * 4294967296 ^ (m - 2) := by
  obtain ⟨n, rfl⟩ : ∃ n, m = n + 2 := ⟨m - 2, by omega⟩
  simp only [Nat.add_sub_cancel, show n + 2 - 1 = n + 1 by omega, show at_ + (n + 2) - 1 = at_ + n + 1 by omega, show at_ + (n + 2) - 2 = at_ + n by omega] at *
  obtain ⟨P, hP⟩ : ∃ P, P = 4294967296 ^ n := ⟨_, rfl⟩
  -- the divisor
  have y1 := pval_cut 4294967296 ys n (by omega)
  have y2 := pval_lt (hy.take n)
  rw [List.length_take, Nat.min_eq_left (by omega)] at y2
  rw [pval_drop_at h5, pval_drop_at h4, List.drop_eq_nil_of_le (show ys.length ≤ n + 1 + 1 by omega)] at y1
  simp only [pval, Nat.mul_zero, Nat.add_zero] at y1
  -- the dividend's place
  have x1 := pval_cut 4294967296 (xs.drop at_) (n + 3) (by rw [List.length_drop]; omega)
  have hsgl : ((xs.drop at_).take (n + 3)).length = n + 3 := by rw [List.length_take, List.length_drop]; omega
  obtain ⟨x, hx0⟩ : ∃ x, xs[at_]? = some x := ⟨_, List.getElem?_eq_getElem (by omega)⟩
  have hxB := hx x (List.mem_of_getElem? hx0)
  have x2 := pval_drop_at (b := 4294967296) hx0
  have x3 : pval 4294967296 (xs.drop at_) < 4294967296 * pval 4294967296 ys := by rw [x2]; omega
  have hyl := pval_lt hy
  rw [hly] at hyl
  have x4 : pval 4294967296 (xs.drop at_) < 4294967296 ^ (n + 3) := by
    rw [show n + 3 = (n + 2) + 1 by omega, Nat.pow_succ]
    omega
  have x5 : pval 4294967296 ((xs.drop at_).drop (n + 3)) = 0 := by
    rcases Nat.eq_zero_or_pos (pval 4294967296 ((xs.drop at_).drop (n + 3))) with h | h
    · exact h
    · have := Nat.mul_le_mul_left (4294967296 ^ (n + 3)) h
      omega
  rw [x5, Nat.mul_zero, Nat.add_zero] at x1
  have hsgB : Below_ 4294967296 ((xs.drop at_).take (n + 3)) := (hx.drop at_).take _
  generalize hsg : (xs.drop at_).take (n + 3) = sg at *
  have g1 : sg[n + 2]? = some hi := by rw [← hsg, List.getElem?_take, if_pos (by omega), List.getElem?_drop]; exact h1
  have g2 : sg[n + 1]? = some mid := by rw [← hsg, List.getElem?_take, if_pos (by omega), List.getElem?_drop]; exact h2
  have g3 : sg[n]? = some low := by rw [← hsg, List.getElem?_take, if_pos (by omega), List.getElem?_drop]; exact h3
  have s1 := pval_cut 4294967296 sg n (by omega)
  have s2 := pval_lt (hsgB.take n)
  rw [List.length_take, Nat.min_eq_left (by omega)] at s2
  rw [pval_drop_at g3, pval_drop_at g2, pval_drop_at g1, List.drop_eq_nil_of_le (show sg.length ≤ n + 2 + 1 by omega)] at s1
  simp only [pval, Nat.mul_zero, Nat.add_zero] at s1
  rw [← hP] at y1 y2 s1 s2
  have hPp : 0 < P := by rw [hP]; exact Nat.pow_pos (by decide)
  have midB := hx mid (List.mem_of_getElem? h2)
  have nextB := hy next (List.mem_of_getElem? h5)
  refine ⟨xs.take at_, sg, (xs.drop at_).drop (n + 3), ?_, by rw [List.length_take]; omega, hsgl, hsgB, x5, x1, by rw [← x1]; exact x3, by rw [← x1]; exact x4, ?_, ?_, ?_, ?_, ?_⟩
  · rw [← hsg, List.take_append_drop, List.take_append_drop]
  · -- hi ≤ top
    rcases Nat.lt_or_ge top hi with h | h
    · exfalso
      have e1 : P * (low + 4294967296 * (mid + 4294967296 * hi)) ≥ P * (4294967296 * (4294967296 * (top + 1))) := Nat.mul_le_mul_left _ (by omega)
      have e2 : P * (next + 4294967296 * top) ≤ P * (4294967296 * (top + 1) - 1) := Nat.mul_le_mul_left _ (by omega)
      have e3 : P * (4294967296 * (top + 1) - 1) = P * (4294967296 * (top + 1)) - P := by rw [Nat.mul_sub, Nat.mul_one]
      have e4 : P * (4294967296 * (4294967296 * (top + 1))) = 4294967296 * (P * (4294967296 * (top + 1))) := by rw [Nat.mul_left_comm]
      have e5 : P ≤ P * (4294967296 * (top + 1)) := Nat.le_mul_of_pos_right _ (by omega)
      rw [x1] at x3
      omega
    · exact h
  · rw [← hP, y1, Nat.mul_comm]
    have : next + 4294967296 * top = top * 4294967296 + next := by omega
    rw [this]
    omega
  · rw [← hP, Nat.add_mul (top * 4294967296 + next), Nat.one_mul, Nat.mul_comm (top * 4294967296 + next), y1]
    have : next + 4294967296 * top = top * 4294967296 + next := by omega
    rw [this]
    omega
  · rw [← hP, s1, Nat.mul_comm]
    have : low + 4294967296 * (mid + 4294967296 * hi) = (hi * 4294967296 + mid) * 4294967296 + low := by omega
    rw [this]
    omega
  · rw [← hP, Nat.add_mul ((hi * 4294967296 + mid) * 4294967296 + low), Nat.one_mul, Nat.mul_comm ((hi * 4294967296 + mid) * 4294967296 + low), s1]
    have : low + 4294967296 * (mid + 4294967296 * hi) = (hi * 4294967296 + mid) * 4294967296 + low := by omega
    rw [this]
    omega
end
section
set_option linter.unusedVariables false
open Go.RowKit
def DivOk (X Y : Nat) : Prop := ∀ (A1 A2 : Option Addr) (n1 c1 n2 c2 : Nat) (l1 l2 : List Nat) (W : World), Sl W 1 A1 n1 c1 (wds l1) → Sl W 1 A2 n2 c2 (wds l2) → Below_ 4294967296 l1 → Below_ 4294967296 l2 → Tidy l1 → Tidy l2 → n1 ≤ 40000 → n2 ≤ 40000 → c1 ≤ maxLen → c2 ≤ maxLen → pval 4294967296 l1 = X → pval 4294967296 l2 = Y →
  Calls Tryz.prog 177 #[.slice A1 n1 c1, .slice A2 n2 c2] W fun e w' => ∃ A3 n3 c3 q A4 n4 c4 r, e = .returned (.tuple #[.slice A3 n3 c3, .slice A4 n4 c4]) ∧ Sl w' 1 A3 n3 c3 (wds q) ∧ Sl w' 1 A4 n4 c4 (wds r) ∧ n3 ≤ 80000 ∧ n4 ≤ 80000 ∧ c3 ≤ maxLen ∧ c4 ≤ maxLen ∧ Below_ 4294967296 q ∧ Below_ 4294967296 r ∧ pval 4294967296 q = X / Y ∧ pval 4294967296 r = X % Y ∧ Pu W w'
theorem div_less (X Y : Nat) (hlt : X < Y) : DivOk X Y := by
  intro A1 A2 n1 c1 n2 c2 l1 l2 w hs1 hs2 hb1 hb2 ht1 ht2 hn1 hn2 hc1 hc2 hX hY
  have hc := compare_any A1 A2 n1 c1 n2 c2 l1 l2 w hs1 hs2 (by omega) (by omega) hb1 hb2 ht1 ht2
  rw [hX, hY, cmpN_lt hlt] at hc
  have HX := Lib.hid hX
  have HY := Lib.hid hY
  clear hX hY
  go_enter Tryz.func177, Tryz.ntmps177
  go_wp2_with fail
  refine hc.mono ?_
  rintro e w1 ⟨rfl, p1⟩
  go_wp2
  go_ret2
  exact ⟨none, 0, 0, [], A1, n1, c1, l1, rfl, Sl.nil _ _ _ _, hs1.pu p1, by omega, by omega, by simp [maxLen], hc1, Below_.nil _, hb1, by rw [Nat.div_eq_of_lt hlt]; rfl, by rw [Nat.mod_eq_of_lt hlt, HX.out], p1⟩
theorem cmpN_ge {x y : Nat} (h : y ≤ x) : ∃ s, cmpN x y = s ∧ decide (s < 0) = false := by
  rcases Nat.lt_or_eq_of_le h with h | h
  · exact ⟨1, cmpN_gt h, rfl⟩
  · subst h
    exact ⟨0, cmpN_eq _, rfl⟩
theorem one_word {l : List Nat} (ht : Tidy l) (h0 : 0 < pval 4294967296 l) (h : pval 4294967296 l < 4294967296) : l = [pval 4294967296 l] := by
  have h1 := tidy_len ht (k := 1) (by rw [Nat.pow_one]; exact h)
  match l, h1, h0 with
  | [], _, h0 => simp [pval] at h0
  | [x], _, _ => simp [pval]
  | x :: y :: t, h1, _ => simp at h1
set_option maxHeartbeats 1000000 in
set_option maxRecDepth 100000 in
theorem div_short (X Y : Nat) (hY0 : 0 < Y) (hY1 : Y < 4294967296) : DivOk X Y := by
  rcases Nat.lt_or_ge X Y with hlt | hge
  · exact div_less X Y hlt
  intro A1 A2 n1 c1 n2 c2 l1 l2 w hs1 hs2 hb1 hb2 ht1 ht2 hn1 hn2 hc1 hc2 hX hY
  have hc := compare_any A1 A2 n1 c1 n2 c2 l1 l2 w hs1 hs2 (by omega) (by omega) hb1 hb2 ht1 ht2
  obtain ⟨s, hs, d0⟩ := cmpN_ge hge
  rw [hX, hY, hs] at hc
  have e2 := one_word ht2 (by omega) (by omega)
  rw [hY] at e2
  subst e2
  have hl2 := hs2.wlen
  obtain rfl : n2 = 1 := hl2.symm
  obtain ⟨b, off, rfl, hbw, hcell⟩ := hs2.wat (j := 0) (x := Y) rfl
  simp only [Nat.add_zero] at hcell
  have hy64 := u64_small (a := Y) (by omega)
  have HX := Lib.hid hX
  clear hX hY hs hl2
  go_enter Tryz.func177, Tryz.ntmps177
  go_wp2_with fail
  refine hc.mono ?_
  rintro e w1 ⟨rfl, p1⟩
  have hcell1 := p1.cellv hcell
  have hbw1 : b < w1.heap.size := Nat.lt_of_lt_of_le hbw p1.size
  go_wp2_with fail
  refine (short_any A1 n1 c1 l1 Y _ (hs1.pu p1) (by omega) hb1 hY0 hY1).mono ?_
  rintro e w2 ⟨A3, n3, c3, q, rfl, hn3, hc3, hS3, hb3, ht3, hq3, p3, _⟩
  have hrlt : pval 4294967296 l1 % Y < 4294967296 := by have := Nat.mod_lt (pval 4294967296 l1) hY0; omega
  have Hq := Lib.hid hq3
  obtain ⟨R, hR⟩ : ∃ R, R = pval 4294967296 l1 % Y := ⟨_, rfl⟩
  rw [← hR] at hrlt ⊢
  have HR := Lib.hid hR
  clear hR hq3
  go_wp2_with fail
  refine (words_any R _ (by omega)).mono ?_
  rintro e w3 ⟨A4, n4, c4, r, rfl, hn4, hc4, hS4, hb4, ht4, hr4, -, p4⟩
  have Hr := Lib.hid hr4
  clear hr4
  go_wp2
  go_ret2
  exact ⟨A3, n3, c3, q, A4, n4, c4, r, rfl, hS3.pu p4, hS4, by omega, by omega, hc3, by simp [maxLen]; omega, hb3, hb4, by rw [Hq.out, HX.out], by rw [Hr.out, HR.out, HX.out], (p1.trans p3).trans p4⟩
end
section
set_option linter.unusedVariables false
open Go.RowKit
theorem sgn_mul (g1 g2 : Bool) (x y : Nat) : sgn g1 x * sgn g2 y = sgn (g1 != g2) (x * y) := by
  cases g1 <;> cases g2 <;> simp [sgn, Int.natCast_mul, Int.mul_neg, Int.neg_mul]
set_option maxHeartbeats 2000000 in
set_option maxRecDepth 100000 in
theorem mul_any (v1 v2 : Value) (z1 z2 : Int) (w : World) (h1 : ZR w v1 z1) (h2 : ZR w v2 z2) (b1 : z1.natAbs < 4294967296 ^ 90000) (b2 : z2.natAbs < 4294967296 ^ 90000) :
    Calls Tryz.prog 50 #[v1, v2] w fun e w' => ∃ v', e = .returned v' ∧ ZR w' v' (z1 * z2) ∧ Pu w w' := by
  obtain ⟨g1, A1, n1, c1, l1, rfl, hs1, hb1, ht1, hg1, ⟨hc1, hU1⟩, rfl⟩ := h1
  obtain ⟨g2, A2, n2, c2, l2, rfl, hs2, hb2, ht2, hg2, ⟨hc2, hU2⟩, rfl⟩ := h2
  rw [sgn_abs] at b1 b2
  rw [sgn_mul]
  have hn1 := tidy_len ht1 b1
  have hn2 := tidy_len ht2 b2
  have ll1 := hs1.wlen
  have ll2 := hs2.wlen
  rw [ll1] at hn1
  rw [ll2] at hn2
  obtain ⟨W, hWe⟩ : ∃ W, W = ((w.alloc (.cells #[.bool g1, .slice A1 n1 c1] 30)).alloc (.cells #[.bool g2, .slice A2 n2 c2] 30)).alloc (.cells #[.bool false, .slice none 0 0] 30) := ⟨_, rfl⟩
  have hWs : W.heap.size = w.heap.size + 3 := by rw [hWe]; simp
  have hW : Pu w W := by
    rw [hWe]
    exact (((Pu.refl w).alloc _).alloc _).alloc _
  have k1 : Blk W w.heap.size 30 #[.bool g1, .slice A1 n1 c1] := by rw [hWe]; exact ((Blk.new w _ _).alloc _).alloc _
  have k2 : Blk W (w.heap.size + 1) 30 #[.bool g2, .slice A2 n2 c2] := by rw [hWe]; exact (Blk.at_new _ _ _ (by simp)).alloc _
  have k3 : Blk W (w.heap.size + 2) 30 #[.bool false, .slice none 0 0] := by rw [hWe]; exact Blk.at_new _ _ _ (by simp)
  have hmk := fun W => run_make_words (n1 + n2 + 1) (n1 + n2 + 1) (by omega) (Nat.le_refl _) W
  have hcast : ((n1 + n2 + 1 : Nat) : Int) = (n1 : Int) + (n2 : Int) + 1 := by omega
  rw [hcast] at hmk
  have Hmk := Lib.hid hmk
  have hw1 : IntKind.i64.wrap ((n1 : Int) + (n2 : Int)) = (n1 : Int) + (n2 : Int) := IntWalk.i64_in _ (by omega)
  have hw2 : IntKind.i64.wrap ((n1 : Int) + (n2 : Int) + 1) = (n1 : Int) + (n2 : Int) + 1 := IntWalk.i64_in _ (by omega)
  have hA0 := WA.made W (n1 + n2 + 1)
  have hP0 : Pu W (W.alloc (.cells (Array.replicate (n1 + n2 + 1) (.int .u32 0)) 169)) := (Pu.refl W).alloc _
  rw [hWs] at hA0
  rw [hWe] at hA0 hP0
  have HWe := Lib.hid hWe
  have hS1 := hs1.pu hW
  have hS2 := hs2.pu hW
  clear hmk hWe hcast hs1 hs2
  go_enter Tryz.func50, Tryz.ntmps50
  go_wp2_with (simp only [Hmk.out])
  go_loopw [23] (fun iv ws => ∃ (i : Nat) (os : List Nat), i ≤ n1 ∧ iv = .int .i64 i ∧ os.length = i + n2 ∧ Below_ 4294967296 os ∧ pval 4294967296 os = pval 4294967296 (l1.take i) * pval 4294967296 l2 ∧ WA ws (w.heap.size + 3) (os ++ List.replicate (n1 + n2 + 1 - (i + n2)) 0) ∧ Pu W ws) (fun iv _ => n1 - (intOf iv).toNat)
  case atStart => exact ⟨0, List.replicate n2 0, Nat.zero_le _, rfl, by simp, Below_.zeros (by omega) _, by simp [pval, pval_zeros], by
    have e : List.replicate n2 0 ++ List.replicate (n1 + n2 + 1 - (0 + n2)) 0 = List.replicate (n1 + n2 + 1) 0 := by
      rw [List.replicate_append_replicate]
      congr 1
      omega
    rw [e]
    exact hA0, by rw [HWe.out]; exact hP0⟩
  case round =>
    obtain ⟨i, os, hi, rfl, hol, hob, hv, hA, hP⟩ := hrel
    have HV := Lib.hid hv
    clear hv
    by_cases hlt : i < n1
    · obtain ⟨x, hx⟩ : ∃ x, l1[i]? = some x := ⟨_, List.getElem?_eq_getElem (by omega)⟩
      have hxb := hb1 x (List.mem_of_getElem? hx)
      obtain ⟨q1, o1, ea, hq1, c1'⟩ := (hS1.pu hP).wat hx
      have Hx := Lib.hid hx
      clear hx
      subst ea
      have j20 : wr.cell? ⟨w.heap.size + 1, 1, none⟩ = some (.slice A2 n2 c2) := (k2.pu hP).cell 1
      go_wp2_with fail
      go_loopw [8, 31] (fun cv kv ws => ∃ (k c : Nat) (os' : List Nat), k ≤ n2 ∧ kv = .int .i64 k ∧ cv = .int .u64 (c : Int) ∧ c < 4294967296 ∧ os'.length = i + n2 ∧ Below_ 4294967296 os' ∧ pval 4294967296 os' + 4294967296 ^ (i + k) * c = pval 4294967296 os + 4294967296 ^ i * (x * pval 4294967296 (l2.take k)) ∧ WA ws (w.heap.size + 3) (os' ++ List.replicate (n1 + n2 + 1 - (i + n2)) 0) ∧ Pu W ws) (fun _ kv _ => n2 - (intOf kv).toNat)
      case atStart => exact ⟨0, 0, os, Nat.zero_le _, rfl, rfl, by omega, hol, hob, by simp [pval], hA, hP⟩
      case round =>
        clear hA hP c1' j20 hq1
        obtain ⟨k, c, os', hk, rfl, rfl, hc, hol', hob', hv', hA, hP⟩ := hrel
        have HV' := Lib.hid hv'
        clear hv'
        have hA1 := hA
        by_cases hlk : k < n2
        · obtain ⟨y, hy⟩ : ∃ y, l2[k]? = some y := ⟨_, List.getElem?_eq_getElem (by omega)⟩
          have hyb := hb2 y (List.mem_of_getElem? hy)
          obtain ⟨q2, o2, eb, hq2, c2'⟩ := (hS2.pu hP).wat hy
          have Hy := Lib.hid hy
          clear hy
          subst eb
          obtain ⟨old, ho⟩ : ∃ old, os'[i + k]? = some old := ⟨_, List.getElem?_eq_getElem (by omega)⟩
          have hoB := hob' old (List.mem_of_getElem? ho)
          have hg0 : wr.cell? ⟨w.heap.size + 3, i + k, none⟩ = some (.int .u32 (old : Int)) := hA.cell (by rw [List.getElem?_append_left (by omega)]; exact ho)
          have hf0 := hA.frozen (i + k)
          have Ho := Lib.hid ho
          have hfit := mul_fits hxb hyb hc hoB
          obtain ⟨p, hp⟩ : ∃ p, p = x * y := ⟨_, rfl⟩
          have hpi : (x : Int) * (y : Int) = (p : Int) := by rw [hp, Int.natCast_mul]
          rw [← hp] at hfit
          have Hp := Lib.hid hp
          have HA1 := Lib.hid hA1
          have hw3 : IntKind.i64.wrap ((i : Int) + (k : Int)) = (i : Int) + (k : Int) := IntWalk.i64_in _ (by omega)
          have hx64 := u64_small (a := x) (by omega)
          have hy64 := u64_small (a := y) (by omega)
          have hp64 := u64_small (a := p) (by omega)
          have ho64 := u64_small (a := old) (by omega)
          have hm2 : IntKind.u64.wrap ((p : Int) + (old : Int)) = (p : Int) + (old : Int) := by rw [IntKind.wrap_u64]; omega
          have hm3 : IntKind.u64.wrap ((c : Int) + ((p : Int) + (old : Int))) = (c : Int) + ((p : Int) + (old : Int)) := by rw [IntKind.wrap_u64]; omega
          clear hp ho hA1
          go_wp2
          have hdm := Nat.div_add_mod (c + (p + old)) 4294967296
          have hr := Nat.mod_lt (c + (p + old)) (show 4294967296 > 0 by omega)
          have hq : (c + (p + old)) / 4294967296 < 4294967296 := by omega
          have e1 : ((c : Int) + ((p : Int) + (old : Int))) % 4294967296 = (((c + (p + old)) % 4294967296 : Nat) : Int) := by omega
          have e2 : ((c : Int) + ((p : Int) + (old : Int))) / 4294967296 = (((c + (p + old)) / 4294967296 : Nat) : Int) := by omega
          rw [e1, e2]
          clear e1 e2
          generalize (c + (p + old)) / 4294967296 = q at *
          generalize (c + (p + old)) % 4294967296 = r at *
          go_roundw
          case rel => exact ⟨k + 1, q, os'.set (i + k) r, by omega, by go_num, rfl, hq, by simp [hol'], hob'.set hr, by
            have hs := pval_set (b := 4294967296) r Ho.out
            have h2 := mul_step hs hdm HV'.out
            rw [take_next Hy.out, ← mul_row, ← Hp.out, ← Nat.add_assoc i k 1, Nat.pow_succ, h2, Nat.add_assoc], by
            have h3 := HA1.out.set_ (i + k) r
            rw [List.set_append_left _ _ (by omega)] at h3
            exact h3, hP.setCell (by show W.heap.size ≤ w.heap.size + 3; omega) _⟩
          case measure => simp [intOf]; omega
        · obtain rfl : k = n2 := by omega
          have hg0 : wr.cell? ⟨w.heap.size + 3, i + k, none⟩ = some (.int .u32 0) := by
            have := hA.cell (j := i + k) (x := 0) (by
              rw [List.getElem?_append_right (by omega), hol', Nat.sub_self, List.getElem?_replicate, if_pos (by omega)])
            simpa using this
          have hf0 := hA.frozen (i + k)
          have j20 : wr.cell? ⟨w.heap.size + 1, 1, none⟩ = some (.slice A2 k c2) := (k2.pu hP).cell 1
          have hw3 : IntKind.i64.wrap ((i : Int) + (k : Int)) = (i : Int) + (k : Int) := IntWalk.i64_in _ (by omega)
          have HA1 := Lib.hid hA1
          clear hA1
          go_wp2
          go_roundw
          case rel => exact ⟨i + 1, os' ++ [c], by omega, by go_num, by simp; omega, hob'.snoc hc, by
            have h2 := HV'.out
            rw [List.take_of_length_le (by omega), HV.out] at h2
            rw [pval_snoc, hol', h2, take_next Hx.out, Nat.add_mul, Nat.mul_assoc], by
            have h3 := HA1.out.set_ (i + k) c
            rw [fill_next hol' (by omega)] at h3
            rw [show i + 1 + k = i + k + 1 by omega]
            exact h3, hP.setCell (by show W.heap.size ≤ w.heap.size + 3; omega) _⟩
          case measure => simp [intOf]; omega
    · obtain rfl : i = n1 := by omega
      have j10 : wr.cell? ⟨w.heap.size, 0, none⟩ = some (.bool g1) := (k1.pu hP).cell 0
      have j20 : wr.cell? ⟨w.heap.size + 1, 0, none⟩ = some (.bool g2) := (k2.pu hP).cell 0
      have hv0 : pval 4294967296 (os ++ List.replicate (i + n2 + 1 - (i + n2)) 0) = pval 4294967296 l1 * pval 4294967296 l2 := by
        rw [pval_append, pval_zeros, HV.out, List.take_of_length_le (by omega)]
        simp
      have hSo := hA.sl (n := i + n2 + 1) (c := i + n2 + 1) (by simp; omega) (Nat.le_refl _)
      rw [List.take_of_length_le (by simp; omega)] at hSo
      have hbo : Below_ 4294967296 (os ++ List.replicate (i + n2 + 1 - (i + n2)) 0) := hob.append (Below_.zeros (by omega) _)
      have hmd := fun g => made_any g _ _ _ _ wr hSo (by omega) (by simp [maxLen]; omega) hbo (W32.of_blk hA)
      rw [hv0] at hmd
      have Hmd := Lib.hid hmd
      have k3' := k3.pu hP
      have hP' := hW.trans hP
      clear hmd hSo hbo hv0 hA hP
      go_wp2_with fail
      refine (Hmd.out _).mono ?_
      rintro e w2 ⟨v', rfl, hz', p2⟩
      have hR := k3'.pu p2
      have hv' := hz'
      obtain ⟨g', A', n', c', l', rfl, _⟩ := hv'
      have q0 : w2.cell? ⟨w.heap.size + 2, 0, none⟩ = some (.bool false) := hR.cell 0
      have q1 : w2.cell? ⟨w.heap.size + 2, 1, none⟩ = some (.slice none 0 0) := hR.cell 1
      have f0 : w2.frozen? ⟨w.heap.size + 2, 0, none⟩ = false := hR.frozen 0
      have f1 : w2.frozen? ⟨w.heap.size + 2, 1, none⟩ = false := hR.frozen 1
      obtain ⟨r0, r1, rz, rp⟩ := store_num hR g' A' n' c'
      go_wp2
      refine bodyPost_ret (v := .agg #[.bool g', .slice A' n' c']) (by simp [results, Tryz.results50, go_sem, r0, r1]) rfl ⟨_, rfl, rz _ _ hz', rp _ (hP'.trans p2) (by omega)⟩
end
end Go.Proofs.YtckfnbckoclhpaaGreatDoor
