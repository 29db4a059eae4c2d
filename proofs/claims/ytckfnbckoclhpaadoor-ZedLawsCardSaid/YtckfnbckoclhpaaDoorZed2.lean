/- zed: Neg, Abs, Sign, words, From. -/
import Derived.Test.YtckfnbckoclhpaaDoorZed1
import Derived.PlainAid
set_option linter.unusedVariables false
namespace Go.Proofs.YtckfnbckoclhpaaDoor
open Go.RowKit

theorem ZR.frBlk {w w' : World} {v : Value} {z : Int} {rb : Nat} {t : TypeId} {cs : Array Value} (h : ZR w v z) (hb : Blk w rb t cs) (hcs : ∀ x : Int, Value.int .u32 x ∉ cs.toList) (hf : Fr (fun k => k = rb) w w') : ZR w' v z := by
  obtain ⟨neg, A, n, c, l, h1, h2, h3⟩ := h
  refine ⟨neg, A, n, c, l, h1, h2.fr hf (h2.ne_blk (by omega) hb fun u hu => ?_), h3⟩
  simp only [wds, List.mem_map] at hu
  obtain ⟨x, _, rfl⟩ := hu
  exact hcs _
/-- a number stored into a result's cells -/
theorem store_num {w : World} {rb : Nat} {a0 : Bool} {a1 : Option Addr} {a2 a3 : Nat} (hb : Blk w rb 25 #[.bool a0, .slice a1 a2 a3]) (neg : Bool) (A : Option Addr) (n c : Nat) :
    ((w.setCell ⟨rb, 0, none⟩ (.bool neg)).setCell ⟨rb, 1, none⟩ (.slice A n c)).cell? ⟨rb, 0, none⟩ = some (.bool neg) ∧
    ((w.setCell ⟨rb, 0, none⟩ (.bool neg)).setCell ⟨rb, 1, none⟩ (.slice A n c)).cell? ⟨rb, 1, none⟩ = some (.slice A n c) ∧
    (∀ v z, ZR w v z → ZR ((w.setCell ⟨rb, 0, none⟩ (.bool neg)).setCell ⟨rb, 1, none⟩ (.slice A n c)) v z) ∧
    (∀ w0, Pu w0 w → w0.heap.size ≤ rb → Pu w0 ((w.setCell ⟨rb, 0, none⟩ (.bool neg)).setCell ⟨rb, 1, none⟩ (.slice A n c))) := by
  have hb2 := (hb.set_ 0 (.bool neg)).set_ 1 (.slice A n c)
  have hf : Fr (fun k => k = rb) w ((w.setCell ⟨rb, 0, none⟩ (.bool neg)).setCell ⟨rb, 1, none⟩ (.slice A n c)) := (Fr.one w rb 0 _).trans (Fr.one _ rb 1 _)
  refine ⟨hb2.cell 0, hb2.cell 1, fun v z h => h.frBlk hb (by simp) hf, fun w0 h h0 => h.step hf (fun k e => by omega)⟩

set_option maxRecDepth 100000 in
theorem neg_any (v : Value) (z : Int) (w : World) (h : ZR w v z) (hz : z.natAbs < 4294967296 ^ 1000) :
    Calls Tryd.prog 29 #[v] w fun e w' => ∃ v', e = .returned v' ∧ ZR w' v' (-z) ∧ Pu w w' := by
  obtain ⟨g, A, n, c, l, rfl, hs, hb, ht, hg, hc, rfl⟩ := h
  rw [sgn_abs] at hz
  have hn := tidy_len ht hz
  have hl := hs.wlen
  have hW : Pu w ((w.alloc (.cells #[.bool g, .slice A n c] 25)).alloc (.cells #[.bool false, .slice none 0 0] 25)) := ((Pu.refl w).alloc _).alloc _
  have hR : Blk ((w.alloc (.cells #[.bool g, .slice A n c] 25)).alloc (.cells #[.bool false, .slice none 0 0] 25)) (w.heap.size + 1) 25 #[.bool false, .slice none 0 0] := Blk.at_new _ _ _ (by simp)
  have hm := made_any (!g) A n c l _ (hs.pu hW) (by omega) hc hb
  have e0 : -sgn g (pval 4294967296 l) = sgn (!g) (pval 4294967296 l) := by cases g <;> simp [sgn]
  rw [e0]
  clear e0
  go_enter Tryd.func29, Tryd.ntmps29
  go_wp2_with fail
  refine hm.mono ?_
  rintro e w1 ⟨v', rfl, hv, hP⟩
  have hR1 := hR.pu hP
  have hv' := hv
  obtain ⟨g', A', n', c', l', rfl, _⟩ := hv'
  have q0 : w1.cell? ⟨w.heap.size + 1, 0, none⟩ = some (.bool false) := hR1.cell 0
  have q1 : w1.cell? ⟨w.heap.size + 1, 1, none⟩ = some (.slice none 0 0) := hR1.cell 1
  have f0 : w1.frozen? ⟨w.heap.size + 1, 0, none⟩ = false := hR1.frozen 0
  have f1 : w1.frozen? ⟨w.heap.size + 1, 1, none⟩ = false := hR1.frozen 1
  obtain ⟨r0, r1, rz, rp⟩ := store_num hR1 g' A' n' c'
  go_wp2
  refine bodyPost_ret (v := .agg #[.bool g', .slice A' n' c']) (by simp [results, Tryd.results29, go_sem, r0, r1]) rfl ⟨_, rfl, rz _ _ hv, rp _ (hW.trans hP) (by omega)⟩

set_option maxRecDepth 100000 in
theorem abs_any (v : Value) (z : Int) (w : World) (h : ZR w v z) (hz : z.natAbs < 4294967296 ^ 1000) :
    Calls Tryd.prog 32 #[v] w fun e w' => ∃ v', e = .returned v' ∧ ZR w' v' (z.natAbs : Int) ∧ Pu w w' := by
  obtain ⟨g, A, n, c, l, rfl, hs, hb, ht, hg, hc, rfl⟩ := h
  rw [sgn_abs] at hz ⊢
  have hn := tidy_len ht hz
  have hl := hs.wlen
  have hW : Pu w ((w.alloc (.cells #[.bool g, .slice A n c] 25)).alloc (.cells #[.bool false, .slice none 0 0] 25)) := ((Pu.refl w).alloc _).alloc _
  have hR : Blk ((w.alloc (.cells #[.bool g, .slice A n c] 25)).alloc (.cells #[.bool false, .slice none 0 0] 25)) (w.heap.size + 1) 25 #[.bool false, .slice none 0 0] := Blk.at_new _ _ _ (by simp)
  have hm := made_any false A n c l _ (hs.pu hW) (by omega) hc hb
  go_enter Tryd.func32, Tryd.ntmps32
  go_wp2_with fail
  refine hm.mono ?_
  rintro e w1 ⟨v', rfl, hv, hP⟩
  have hR1 := hR.pu hP
  have hv' := hv
  obtain ⟨g', A', n', c', l', rfl, _⟩ := hv'
  have q0 : w1.cell? ⟨w.heap.size + 1, 0, none⟩ = some (.bool false) := hR1.cell 0
  have q1 : w1.cell? ⟨w.heap.size + 1, 1, none⟩ = some (.slice none 0 0) := hR1.cell 1
  have f0 : w1.frozen? ⟨w.heap.size + 1, 0, none⟩ = false := hR1.frozen 0
  have f1 : w1.frozen? ⟨w.heap.size + 1, 1, none⟩ = false := hR1.frozen 1
  obtain ⟨r0, r1, rz, rp⟩ := store_num hR1 g' A' n' c'
  go_wp2
  refine bodyPost_ret (v := .agg #[.bool g', .slice A' n' c']) (by simp [results, Tryd.results32, go_sem, r0, r1]) rfl ⟨_, rfl, rz _ _ hv, rp _ (hW.trans hP) (by omega)⟩

theorem pval_pos {l : List Nat} (ht : Tidy l) (hl : l ≠ []) : 0 < pval 4294967296 l := by
  have h := pval_ge (b := 4294967296) (by omega) ht hl
  have := Nat.pow_pos (n := l.length - 1) (show 0 < 4294967296 by omega)
  omega
set_option maxRecDepth 100000 in
theorem sign_any (v : Value) (z : Int) (w : World) (h : ZR w v z) (hz : z.natAbs < 4294967296 ^ 1000) :
    Calls Tryd.prog 18 #[v] w fun e w' => e = .returned (.int .i64 z.sign) ∧ Pu w w' := by
  obtain ⟨g, A, n, c, l, rfl, hs, hb, ht, hg, hc, rfl⟩ := h
  rw [sgn_abs] at hz
  have hn := tidy_len ht hz
  have hl := hs.wlen
  have key : ∀ s, (sgn g (pval 4294967296 l)).sign = s → Calls Tryd.prog 18 #[.agg #[.bool g, .slice A n c]] w fun e w' => e = .returned (.int .i64 s) ∧ Pu w w' := by
    intro s hs'
    by_cases h0 : n = 0
    · obtain rfl : l = [] := List.eq_nil_of_length_eq_zero (by omega)
      obtain rfl : s = 0 := by rw [← hs', show pval 4294967296 [] = 0 from rfl, sgn_zero]; rfl
      subst h0
      go_enter Tryd.func18, Tryd.ntmps18
      go_wp2
      go_ret
      exact ⟨rfl, (Pu.refl w).alloc _⟩
    · have hp := pval_pos ht (fun e => by rw [e] at hl; simp at hl; omega)
      have e0 : ((n : Int) == 0) = false := by simp; omega
      generalize pval 4294967296 l = V at *
      clear hb ht hg hs
      cases g
      · obtain rfl : s = 1 := by rw [← hs']; exact Int.sign_eq_one_of_pos (by show (0 : Int) < (V : Int); omega)
        go_enter Tryd.func18, Tryd.ntmps18
        go_wp2
        go_ret
        exact ⟨rfl, (Pu.refl w).alloc _⟩
      · obtain rfl : s = -1 := by rw [← hs']; exact Int.sign_eq_neg_one_of_neg (by show -(V : Int) < 0; omega)
        go_enter Tryd.func18, Tryd.ntmps18
        go_wp2
        go_ret
        exact ⟨rfl, (Pu.refl w).alloc _⟩
  exact key _ rfl

set_option maxRecDepth 100000 in
theorem words_any (x : Nat) (w : World) (hx : x < 18446744073709551616) :
    Calls Tryd.prog 39 #[.int .u64 (x : Int)] w fun e w' => ∃ A n c l, e = .returned (.slice A n c) ∧ n ≤ 2 ∧ c ≤ 2 ∧ Sl w' 1 A n c (wds l) ∧ Below_ 4294967296 l ∧ Tidy l ∧ pval 4294967296 l = x ∧ Pu w w' := by
  have h1 : IntKind.u32.wrap (x : Int) = ((x % 4294967296 : Nat) : Int) := by rw [IntKind.wrap_u32]; omega
  have h2 : IntKind.u32.wrap ((x : Int) / 4294967296) = ((x / 4294967296 : Nat) : Int) := by rw [IntKind.wrap_u32]; omega
  go_enter Tryd.func39, Tryd.ntmps39
  go_wp2_with fail
  have hS := Sl.new w 67 #[.int .u32 ((x : Int) % 4294967296), .int .u32 ((x : Int) / 4294967296)] 1 2 2 rfl (Nat.le_refl _)
  have e : (#[Value.int .u32 ((x : Int) % 4294967296), .int .u32 ((x : Int) / 4294967296)] : Array Value).toList = wds [x % 4294967296, x / 4294967296] := by simp
  rw [e] at hS
  refine (trim_any _ 2 2 _ _ hS (by omega) (by simp [maxLen])).mono ?_
  rintro e w1 ⟨rfl, rfl⟩
  have hT := tidied_Sl hS
  have hB : Below_ 4294967296 [x % 4294967296, x / 4294967296] := by
    intro y hy
    simp at hy
    omega
  have hv : pval 4294967296 (tidied [x % 4294967296, x / 4294967296]) = x := by
    rw [tidied_val]
    simp only [pval]
    omega
  have hle := tidied_len [x % 4294967296, x / 4294967296]
  have fin := Lib.hid (And.intro (tidied_below hB) (And.intro (tidied_tidy [x % 4294967296, x / 4294967296]) hv))
  have Hw := Lib.hid hT
  clear hT hv hB e hS h1 h2
  go_wp2
  go_ret
  exact ⟨_, _, 2, _, rfl, hle, Nat.le_refl _, Hw.out, fin.out.1, fin.out.2.1, fin.out.2.2, (Pu.refl w).alloc _⟩

set_option maxRecDepth 100000 in
theorem from_any (z : Int) (w : World) (h1 : -9223372036854775808 ≤ z) (h2 : z ≤ 9223372036854775807) :
    Calls Tryd.prog 12 #[.int .i64 z] w fun e w' => ∃ v', e = .returned v' ∧ ZR w' v' z ∧ Pu w w' := by
  have hW : Pu w (w.alloc (.cells #[.bool false, .slice none 0 0] 25)) := (Pu.refl w).alloc _
  have hR : Blk (w.alloc (.cells #[.bool false, .slice none 0 0] 25)) w.heap.size 25 #[.bool false, .slice none 0 0] := Blk.new _ _ _
  rcases Int.lt_or_le z 0 with hz | hz
  · obtain ⟨x, hx⟩ : ∃ x : Nat, z = -(x : Int) := ⟨(-z).toNat, by omega⟩
    subst hx
    have hw := words_any x (w.alloc (.cells #[.bool false, .slice none 0 0] 25)) (by omega)
    have d1 : decide (-(x : Int) < 0) = true := by simp; omega
    have hu : IntKind.u64.wrap (-(x : Int)) = 18446744073709551616 - (x : Int) := by rw [IntKind.wrap_u64]; omega
    have hu2 : IntKind.u64.wrap (-(18446744073709551616 - (x : Int))) = (x : Int) := by rw [IntKind.wrap_u64]; omega
    go_enter Tryd.func12, Tryd.ntmps12
    go_wp2_with fail
    refine hw.mono ?_
    rintro e w1 ⟨A, n, c, l, rfl, hn, hc, hS, hB, hT, hv, h1'⟩
    have hm := made_any true A n c l _ hS (by omega) (by simp [maxLen]; omega) hB
    rw [hv] at hm
    have hR1 := hR.pu h1'
    go_wp2_with fail
    refine hm.mono ?_
    rintro e w2 ⟨v', rfl, hz', hP⟩
    have hR2 := hR1.pu hP
    have hv' := hz'
    obtain ⟨g', A', n', c', l', rfl, _⟩ := hv'
    have q0 : w2.cell? ⟨w.heap.size, 0, none⟩ = some (.bool false) := hR2.cell 0
    have q1 : w2.cell? ⟨w.heap.size, 1, none⟩ = some (.slice none 0 0) := hR2.cell 1
    have f0 : w2.frozen? ⟨w.heap.size, 0, none⟩ = false := hR2.frozen 0
    have f1 : w2.frozen? ⟨w.heap.size, 1, none⟩ = false := hR2.frozen 1
    obtain ⟨r0, r1, rz, rp⟩ := store_num hR2 g' A' n' c'
    go_wp2
    refine bodyPost_ret (v := .agg #[.bool g', .slice A' n' c']) (by simp [results, Tryd.results12, go_sem, r0, r1]) rfl ⟨_, rfl, ?_, rp _ ((hW.trans h1').trans hP) (Nat.le_refl _)⟩
    exact rz _ _ hz'
  · obtain ⟨x, hx⟩ : ∃ x : Nat, z = (x : Int) := ⟨z.toNat, by omega⟩
    subst hx
    have hw := words_any x (w.alloc (.cells #[.bool false, .slice none 0 0] 25)) (by omega)
    have d1 : decide ((x : Int) < 0) = false := by simp
    have hu : IntKind.u64.wrap (x : Int) = (x : Int) := by rw [IntKind.wrap_u64]; omega
    go_enter Tryd.func12, Tryd.ntmps12
    go_wp2_with fail
    refine hw.mono ?_
    rintro e w1 ⟨A, n, c, l, rfl, hn, hc, hS, hB, hT, hv, h1'⟩
    have hm := made_any false A n c l _ hS (by omega) (by simp [maxLen]; omega) hB
    rw [hv] at hm
    have hR1 := hR.pu h1'
    go_wp2_with fail
    refine hm.mono ?_
    rintro e w2 ⟨v', rfl, hz', hP⟩
    have hR2 := hR1.pu hP
    have hv' := hz'
    obtain ⟨g', A', n', c', l', rfl, _⟩ := hv'
    have q0 : w2.cell? ⟨w.heap.size, 0, none⟩ = some (.bool false) := hR2.cell 0
    have q1 : w2.cell? ⟨w.heap.size, 1, none⟩ = some (.slice none 0 0) := hR2.cell 1
    have f0 : w2.frozen? ⟨w.heap.size, 0, none⟩ = false := hR2.frozen 0
    have f1 : w2.frozen? ⟨w.heap.size, 1, none⟩ = false := hR2.frozen 1
    obtain ⟨r0, r1, rz, rp⟩ := store_num hR2 g' A' n' c'
    go_wp2
    refine bodyPost_ret (v := .agg #[.bool g', .slice A' n' c']) (by simp [results, Tryd.results12, go_sem, r0, r1]) rfl ⟨_, rfl, ?_, rp _ ((hW.trans h1').trans hP) (Nat.le_refl _)⟩
    exact rz _ _ hz'
end Go.Proofs.YtckfnbckoclhpaaDoor
