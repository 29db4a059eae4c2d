/- zed: words in memory; trim, made, Neg, Abs, Sign. zed: Neg, Abs, Sign, words, From. zed: sign, compare, Cmp. -/
import Derived.Test.YtckfnbckoclhpaaDoorProg
import Derived.Test.YtckfnbckoclhpaaDoorBase
import Derived.Test.YtckfnbckoclhpaaDoorZMath
import Derived.Deep.QuietTactic
import Derived.Deep.RegionLaw
import Derived.PlainAid
set_option linter.unusedVariables false
namespace Go.Proofs.YtckfnbckoclhpaaDoor
open Go.RowKit
/- zed: words in memory; trim, made, Neg, Abs, Sign. -/
/-- the cells of words -/
abbrev wds (l : List Nat) : List Value := l.map fun x : Nat => Value.int .u32 (x : Int)
theorem Sl.wlen {w : World} {A : Option Addr} {n c : Nat} {l : List Nat} (h : Sl w 1 A n c (wds l)) : l.length = n := by have := h.1; simpa using this
theorem Sl.wat {w : World} {A : Option Addr} {n c : Nat} {l : List Nat} (h : Sl w 1 A n c (wds l)) {j x : Nat} (hj : l[j]? = some x) : ∃ b off, A = some ⟨b, off, none⟩ ∧ b < w.heap.size ∧ w.cell? ⟨b, off + j, none⟩ = some (.int .u32 (x : Int)) := by
  have hl := h.wlen
  have := (List.getElem?_eq_some_iff.1 hj).1
  obtain ⟨b, off, u, e, hb, hu, hc⟩ := h.at_ (j := j) (by omega)
  refine ⟨b, off, e, hb, ?_⟩
  rw [List.getElem?_map, hj] at hu
  injection hu with hu
  rw [hc, ← hu]
theorem Sl.pre {w : World} {A : Option Addr} {n c : Nat} {xs : List Value} (h : Sl w 1 A n c xs) {k : Nat} (hk : k ≤ n) : Sl w 1 A k c (xs.take k) := by
  have h1 := h.1
  refine ⟨by simp; omega, Nat.le_trans hk h.2.1, fun h0 => ?_⟩
  obtain ⟨b, off, e, hb, hc⟩ := h.2.2 (by omega)
  refine ⟨b, off, e, hb, fun j u hu => hc j u ?_⟩
  rw [List.getElem?_take] at hu
  split at hu
  · exact hu
  · cases hu
theorem wds_take (l : List Nat) (k : Nat) : wds (l.take k) = (wds l).take k := by simp [List.map_take]

theorem tidied_take_succ {l : List Nat} {k x : Nat} (h : l[k]? = some x) : tidied (l.take (k + 1)) = if x = 0 then tidied (l.take k) else l.take (k + 1) := by
  have e0 : l.take (k + 1) = l.take k ++ [x] := by rw [List.take_add_one, h]; rfl
  rw [e0]
  split
  · rename_i e
    rw [e, tidied_snoc0]
  · rename_i e
    rw [tidied_snoc _ e]

set_option maxRecDepth 100000 in
theorem trim_any (A : Option Addr) (n c : Nat) (l : List Nat) (w : World) (h : Sl w 1 A n c (wds l)) (hn : n ≤ 1000000) (hc : c ≤ maxLen) :
    Calls Tryd.prog 45 #[.slice A n c] w fun e w' => e = .returned (.slice A (tidied l).length c) ∧ w = w' := by
  have hl := h.wlen
  have hnc := h.2.1
  go_enter Tryd.func45, Tryd.ntmps45
  go_wp2_with fail
  go_loop [3] (fun i => ∃ j : Nat, j ≤ n ∧ i = .int .i64 j ∧ tidied l = tidied (l.take j)) (fun i => (intOf i).toNat)
  case atStart => exact ⟨n, Nat.le_refl _, rfl, by rw [List.take_of_length_le (by omega)]⟩
  case round =>
    obtain ⟨j, hj, rfl, ht⟩ := hrel
    have HT := Lib.hid ht
    clear ht
    rcases j with _ | k
    · have hc63 : c ≤ 9223372036854775807 := hc
      go_wp2
      all_goals
        go_ret
        exact ⟨by rw [HT.out]; rfl, rfl⟩
    · obtain ⟨x, hx⟩ : ∃ x, l[k]? = some x := ⟨_, List.getElem?_eq_getElem (by omega)⟩
      obtain ⟨b, off, rfl, hb, hcell⟩ := h.wat hx
      have Hx := Lib.hid hx
      clear hx
      have hw1 : IntKind.i64.wrap ((k : Int) + 1) = (k : Int) + 1 := IntWalk.i64_in _ (by omega)
      have hc63 : c ≤ 9223372036854775807 := hc
      by_cases e : x = 0
      · subst e
        go_wp2
        go_round
        case rel => exact ⟨k, by omega, by go_num, by rw [HT.out, tidied_take_succ Hx.out, if_pos rfl]⟩
        case measure => simp [intOf]
      · have hb0 : ((x : Int) == 0) = false := by simp; omega
        have E := Lib.hid e
        clear e
        go_wp2
        go_ret
        have e1 : tidied l = l.take (k + 1) := by rw [HT.out, tidied_take_succ Hx.out, if_neg E.out]
        exact ⟨by rw [e1, List.length_take, Nat.min_eq_left (by omega)]; rfl, rfl⟩

/-- a sign and a size -/
def sgn (g : Bool) (v : Nat) : Int := if g then -(v : Int) else (v : Int)
theorem sgn_zero (g : Bool) : sgn g 0 = 0 := by cases g <;> rfl
theorem sgn_abs (g : Bool) (v : Nat) : (sgn g v).natAbs = v := by cases g <;> simp [sgn]
/-- v is the number z -/
def ZR (w : World) (v : Value) (z : Int) : Prop :=
  ∃ neg A n c l, v = .agg #[.bool neg, .slice A n c] ∧ Sl w 1 A n c (wds l) ∧ Below_ 4294967296 l ∧ Tidy l ∧ (neg = true → l ≠ []) ∧ c ≤ maxLen ∧ z = sgn neg (pval 4294967296 l)
theorem ZR.pu {w w' : World} {v : Value} {z : Int} (h : ZR w v z) (hp : Pu w w') : ZR w' v z := by
  obtain ⟨neg, A, n, c, l, h1, h2, h3⟩ := h
  exact ⟨neg, A, n, c, l, h1, h2.pu hp, h3⟩
/-- a tidy list is short when what it is worth is small -/
theorem tidy_len {l : List Nat} (ht : Tidy l) {k : Nat} (h : pval 4294967296 l < 4294967296 ^ k) : l.length ≤ k := by
  rcases Decidable.em (l = []) with e | e
  · subst e
    exact Nat.zero_le _
  · have h1 := pval_ge (b := 4294967296) (by omega) ht e
    have h2 := (Nat.pow_lt_pow_iff_right (a := 4294967296) (by omega)).1 (Nat.lt_of_le_of_lt h1 h)
    omega
theorem tidied_Sl {w : World} {A : Option Addr} {n c : Nat} {l : List Nat} (h : Sl w 1 A n c (wds l)) : Sl w 1 A (tidied l).length c (wds (tidied l)) := by
  have hl := h.wlen
  obtain ⟨k, hk, e⟩ := tidied_prefix l
  have h1 := h.pre (k := k) (by omega)
  rw [← wds_take, ← e] at h1
  have h2 := h1.wlen
  rwa [← h2] at h1
theorem made_val (g : Bool) (l : List Nat) : sgn g (pval 4294967296 l) = sgn (g && decide (0 < (tidied l).length)) (pval 4294967296 (tidied l)) := by
  rw [tidied_val]
  cases g
  · rfl
  · by_cases h : 0 < (tidied l).length
    · simp [h]
    · have e : tidied l = [] := List.eq_nil_of_length_eq_zero (by omega)
      have e2 : pval 4294967296 l = 0 := by rw [← tidied_val, e]; rfl
      rw [e2, sgn_zero, sgn_zero]

/-- a slice's block is at k or behind -/
def Beyond (k : Nat) (A : Option Addr) : Prop := ∀ b off, A = some ⟨b, off, none⟩ → k ≤ b
theorem Beyond.none (k : Nat) : Beyond k none := fun _ _ e => by cases e
theorem Beyond.own {w : World} {base k n c : Nat} {e : TypeId} {A : Option Addr} {xs : List Value} (h : w.ownsRow base e k (.slice A n c) n xs) : Beyond base A := own_ge h
theorem Beyond.le {k j : Nat} {A : Option Addr} (h : Beyond k A) (hj : j ≤ k) : Beyond j A := fun b off e => Nat.le_trans hj (h b off e)
/-- the words of a number are in a block at k or behind -/
def Bey (k : Nat) (v : Value) : Prop := ∀ g A n c, v = .agg #[.bool g, .slice A n c] → Beyond k A
theorem Bey.mk {k : Nat} {g : Bool} {A : Option Addr} {n c : Nat} (h : Beyond k A) : Bey k (.agg #[.bool g, .slice A n c]) := by
  intro g' A' n' c' e
  injection e with e
  have e1 : [Value.bool g, .slice A n c] = [Value.bool g', .slice A' n' c'] := by injection e
  injection e1 with e1 e2
  injection e2 with e2 _
  injection e2 with eA _ _
  rw [← eA]
  exact h

set_option maxRecDepth 100000 in
theorem made_new (g : Bool) (A : Option Addr) (n c : Nat) (l : List Nat) (w : World) (h : Sl w 1 A n c (wds l)) (hn : n ≤ 1000000) (hc : c ≤ maxLen) (hb : Below_ 4294967296 l) :
    Calls Tryd.prog 38 #[.bool g, .slice A n c] w fun e w' => ∃ v, e = .returned v ∧ ZR w' v (sgn g (pval 4294967296 l)) ∧ (∀ k, Beyond k A → Bey k v) ∧ Pu w w' := by
  have hW : Pu w (w.alloc (.cells #[.bool false, .slice none 0 0] 25)) := (Pu.refl w).alloc _
  have hle := tidied_len l
  have hl := h.wlen
  have htr := trim_any A n c l _ (h.pu hW) hn hc
  have fin : ∀ neg, neg = (g && decide (0 < (tidied l).length)) → ZR (w.alloc (.cells #[.bool neg, .slice A (tidied l).length c] 25)) (.agg #[.bool neg, .slice A (tidied l).length c]) (sgn g (pval 4294967296 l)) := fun neg e => by
    refine ⟨neg, A, _, c, tidied l, rfl, tidied_Sl (h.pu ((Pu.refl w).alloc _)), tidied_below hb, tidied_tidy l, fun hg he => ?_, hc, by rw [e]; exact made_val g l⟩
    rw [hg, he] at e
    simp at e
  have Fin := Lib.hid fin
  clear fin
  generalize (tidied l).length = k at *
  go_enter Tryd.func38, Tryd.ntmps38
  go_wp2_with fail
  refine htr.mono ?_
  rintro e w1 ⟨rfl, rfl⟩
  cases g
  · go_wp2
    have c0 : (w.alloc (.cells #[.bool false, .slice A k c] 25)).cell? ⟨w.heap.size, 0, none⟩ = some (.bool false) := (Blk.new w _ _).cell 0
    have c1 : (w.alloc (.cells #[.bool false, .slice A k c] 25)).cell? ⟨w.heap.size, 1, none⟩ = some (.slice A k c) := (Blk.new w _ _).cell 1
    refine bodyPost_ret (v := .agg #[.bool false, .slice A k c]) (by simp [results, Tryd.results38, go_sem, c0, c1]) rfl ⟨_, rfl, Fin.out false (by simp), fun _ h => Bey.mk h, (Pu.refl w).alloc _⟩
  · rcases Nat.eq_zero_or_pos k with h0 | h0
    · subst h0
      go_wp2
      have c0 : (w.alloc (.cells #[.bool false, .slice A 0 c] 25)).cell? ⟨w.heap.size, 0, none⟩ = some (.bool false) := (Blk.new w _ _).cell 0
      have c1 : (w.alloc (.cells #[.bool false, .slice A 0 c] 25)).cell? ⟨w.heap.size, 1, none⟩ = some (.slice A 0 c) := (Blk.new w _ _).cell 1
      refine bodyPost_ret (v := .agg #[.bool false, .slice A 0 c]) (by simp [results, Tryd.results38, go_sem, c0, c1]) rfl ⟨_, rfl, Fin.out false (by simp), fun _ h => Bey.mk h, (Pu.refl w).alloc _⟩
    · have d1 : decide (0 < k) = true := by simp [h0]
      have d2 : decide (0 < (k : Int)) = true := by simp; omega
      have d3 : decide ((k : Int) > 0) = true := by simp; omega
      go_wp2
      have c0 : (w.alloc (.cells #[.bool true, .slice A k c] 25)).cell? ⟨w.heap.size, 0, none⟩ = some (.bool true) := (Blk.new w _ _).cell 0
      have c1 : (w.alloc (.cells #[.bool true, .slice A k c] 25)).cell? ⟨w.heap.size, 1, none⟩ = some (.slice A k c) := (Blk.new w _ _).cell 1
      refine bodyPost_ret (v := .agg #[.bool true, .slice A k c]) (by simp [results, Tryd.results38, go_sem, c0, c1]) rfl ⟨_, rfl, Fin.out true (by simp [h0]), fun _ h => Bey.mk h, (Pu.refl w).alloc _⟩
theorem made_any (g : Bool) (A : Option Addr) (n c : Nat) (l : List Nat) (w : World) (h : Sl w 1 A n c (wds l)) (hn : n ≤ 1000000) (hc : c ≤ maxLen) (hb : Below_ 4294967296 l) :
    Calls Tryd.prog 38 #[.bool g, .slice A n c] w fun e w' => ∃ v, e = .returned v ∧ ZR w' v (sgn g (pval 4294967296 l)) ∧ Pu w w' :=
  (made_new g A n c l w h hn hc hb).mono fun _ _ ⟨v, h1, h2, _, h3⟩ => ⟨v, h1, h2, h3⟩

/- zed: Neg, Abs, Sign, words, From. -/
theorem ZR.frBlk {w w' : World} {v : Value} {z : Int} {rb : Nat} {t : TypeId} {cs : Array Value} (h : ZR w v z) (hb : Blk w rb t cs) (hcs : ∀ x : Int, Value.int .u32 x ∉ cs.toList) (hf : Fr (fun k => k = rb) w w') : ZR w' v z := by
  obtain ⟨neg, A, n, c, l, h1, h2, h3⟩ := h
  refine ⟨neg, A, n, c, l, h1, h2.fr hf (h2.ne_blk (by omega) hb fun u hu => ?_), h3⟩
  simp only [wds, List.mem_map] at hu
  obtain ⟨x, _, rfl⟩ := hu
  exact hcs _
/-- a number stored into a result's cells -/
theorem store_num {w : World} {rb : Nat} {a0 : Bool} {a1 : Option Addr} {a2 a3 : Nat} (hb : Blk w rb 25 #[.bool a0, .slice a1 a2 a3]) (neg : Bool) (A : Option Addr) (n c : Nat) :
    ((w.setCell ⟨rb, 0, none⟩ (.bool neg)).setCell ⟨rb, 1, none⟩ (.slice A n c)).cell? ⟨rb, 0, none⟩ = some (.bool neg) ∧
    ((w.setCell ⟨rb, 0, none⟩ (.bool neg)).setCell ⟨rb, 1, none⟩ (.slice A n c)).cell? ⟨rb, 1, none⟩ = some (.slice A n c) ∧
    (∀ v z, ZR w v z → ZR ((w.setCell ⟨rb, 0, none⟩ (.bool neg)).setCell ⟨rb, 1, none⟩ (.slice A n c)) v z) ∧
    (∀ w0, Pu w0 w → w0.heap.size ≤ rb → Pu w0 ((w.setCell ⟨rb, 0, none⟩ (.bool neg)).setCell ⟨rb, 1, none⟩ (.slice A n c))) := by
  have hb2 := (hb.set_ 0 (.bool neg)).set_ 1 (.slice A n c)
  have hf : Fr (fun k => k = rb) w ((w.setCell ⟨rb, 0, none⟩ (.bool neg)).setCell ⟨rb, 1, none⟩ (.slice A n c)) := (Fr.one w rb 0 _).trans (Fr.one _ rb 1 _)
  refine ⟨hb2.cell 0, hb2.cell 1, fun v z h => h.frBlk hb (by simp) hf, fun w0 h h0 => h.step hf (fun k e => by omega)⟩

set_option maxRecDepth 100000 in
theorem neg_any (v : Value) (z : Int) (w : World) (h : ZR w v z) (hz : z.natAbs < 4294967296 ^ 1000) :
    Calls Tryd.prog 29 #[v] w fun e w' => ∃ v', e = .returned v' ∧ ZR w' v' (-z) ∧ Pu w w' := by
  obtain ⟨g, A, n, c, l, rfl, hs, hb, ht, hg, hc, rfl⟩ := h
  rw [sgn_abs] at hz
  have hn := tidy_len ht hz
  have hl := hs.wlen
  have hW : Pu w ((w.alloc (.cells #[.bool g, .slice A n c] 25)).alloc (.cells #[.bool false, .slice none 0 0] 25)) := ((Pu.refl w).alloc _).alloc _
  have hR : Blk ((w.alloc (.cells #[.bool g, .slice A n c] 25)).alloc (.cells #[.bool false, .slice none 0 0] 25)) (w.heap.size + 1) 25 #[.bool false, .slice none 0 0] := Blk.at_new _ _ _ (by simp)
  have hm := made_any (!g) A n c l _ (hs.pu hW) (by omega) hc hb
  have e0 : -sgn g (pval 4294967296 l) = sgn (!g) (pval 4294967296 l) := by cases g <;> simp [sgn]
  rw [e0]
  clear e0
  go_enter Tryd.func29, Tryd.ntmps29
  go_wp2_with fail
  refine hm.mono ?_
  rintro e w1 ⟨v', rfl, hv, hP⟩
  have hR1 := hR.pu hP
  have hv' := hv
  obtain ⟨g', A', n', c', l', rfl, _⟩ := hv'
  have q0 : w1.cell? ⟨w.heap.size + 1, 0, none⟩ = some (.bool false) := hR1.cell 0
  have q1 : w1.cell? ⟨w.heap.size + 1, 1, none⟩ = some (.slice none 0 0) := hR1.cell 1
  have f0 : w1.frozen? ⟨w.heap.size + 1, 0, none⟩ = false := hR1.frozen 0
  have f1 : w1.frozen? ⟨w.heap.size + 1, 1, none⟩ = false := hR1.frozen 1
  obtain ⟨r0, r1, rz, rp⟩ := store_num hR1 g' A' n' c'
  go_wp2
  refine bodyPost_ret (v := .agg #[.bool g', .slice A' n' c']) (by simp [results, Tryd.results29, go_sem, r0, r1]) rfl ⟨_, rfl, rz _ _ hv, rp _ (hW.trans hP) (by omega)⟩

set_option maxRecDepth 100000 in
theorem abs_any (v : Value) (z : Int) (w : World) (h : ZR w v z) (hz : z.natAbs < 4294967296 ^ 1000) :
    Calls Tryd.prog 32 #[v] w fun e w' => ∃ v', e = .returned v' ∧ ZR w' v' (z.natAbs : Int) ∧ Pu w w' := by
  obtain ⟨g, A, n, c, l, rfl, hs, hb, ht, hg, hc, rfl⟩ := h
  rw [sgn_abs] at hz ⊢
  have hn := tidy_len ht hz
  have hl := hs.wlen
  have hW : Pu w ((w.alloc (.cells #[.bool g, .slice A n c] 25)).alloc (.cells #[.bool false, .slice none 0 0] 25)) := ((Pu.refl w).alloc _).alloc _
  have hR : Blk ((w.alloc (.cells #[.bool g, .slice A n c] 25)).alloc (.cells #[.bool false, .slice none 0 0] 25)) (w.heap.size + 1) 25 #[.bool false, .slice none 0 0] := Blk.at_new _ _ _ (by simp)
  have hm := made_any false A n c l _ (hs.pu hW) (by omega) hc hb
  go_enter Tryd.func32, Tryd.ntmps32
  go_wp2_with fail
  refine hm.mono ?_
  rintro e w1 ⟨v', rfl, hv, hP⟩
  have hR1 := hR.pu hP
  have hv' := hv
  obtain ⟨g', A', n', c', l', rfl, _⟩ := hv'
  have q0 : w1.cell? ⟨w.heap.size + 1, 0, none⟩ = some (.bool false) := hR1.cell 0
  have q1 : w1.cell? ⟨w.heap.size + 1, 1, none⟩ = some (.slice none 0 0) := hR1.cell 1
  have f0 : w1.frozen? ⟨w.heap.size + 1, 0, none⟩ = false := hR1.frozen 0
  have f1 : w1.frozen? ⟨w.heap.size + 1, 1, none⟩ = false := hR1.frozen 1
  obtain ⟨r0, r1, rz, rp⟩ := store_num hR1 g' A' n' c'
  go_wp2
  refine bodyPost_ret (v := .agg #[.bool g', .slice A' n' c']) (by simp [results, Tryd.results32, go_sem, r0, r1]) rfl ⟨_, rfl, rz _ _ hv, rp _ (hW.trans hP) (by omega)⟩

theorem pval_pos {l : List Nat} (ht : Tidy l) (hl : l ≠ []) : 0 < pval 4294967296 l := by
  have h := pval_ge (b := 4294967296) (by omega) ht hl
  have := Nat.pow_pos (n := l.length - 1) (show 0 < 4294967296 by omega)
  omega
set_option maxRecDepth 100000 in
theorem sign_any (v : Value) (z : Int) (w : World) (h : ZR w v z) (hz : z.natAbs < 4294967296 ^ 1000) :
    Calls Tryd.prog 18 #[v] w fun e w' => e = .returned (.int .i64 z.sign) ∧ Pu w w' := by
  obtain ⟨g, A, n, c, l, rfl, hs, hb, ht, hg, hc, rfl⟩ := h
  rw [sgn_abs] at hz
  have hn := tidy_len ht hz
  have hl := hs.wlen
  have key : ∀ s, (sgn g (pval 4294967296 l)).sign = s → Calls Tryd.prog 18 #[.agg #[.bool g, .slice A n c]] w fun e w' => e = .returned (.int .i64 s) ∧ Pu w w' := by
    intro s hs'
    by_cases h0 : n = 0
    · obtain rfl : l = [] := List.eq_nil_of_length_eq_zero (by omega)
      obtain rfl : s = 0 := by rw [← hs', show pval 4294967296 [] = 0 from rfl, sgn_zero]; rfl
      subst h0
      go_enter Tryd.func18, Tryd.ntmps18
      go_wp2
      go_ret
      exact ⟨rfl, (Pu.refl w).alloc _⟩
    · have hp := pval_pos ht (fun e => by rw [e] at hl; simp at hl; omega)
      have e0 : ((n : Int) == 0) = false := by simp; omega
      generalize pval 4294967296 l = V at *
      clear hb ht hg hs
      cases g
      · obtain rfl : s = 1 := by rw [← hs']; exact Int.sign_eq_one_of_pos (by show (0 : Int) < (V : Int); omega)
        go_enter Tryd.func18, Tryd.ntmps18
        go_wp2
        go_ret
        exact ⟨rfl, (Pu.refl w).alloc _⟩
      · obtain rfl : s = -1 := by rw [← hs']; exact Int.sign_eq_neg_one_of_neg (by show -(V : Int) < 0; omega)
        go_enter Tryd.func18, Tryd.ntmps18
        go_wp2
        go_ret
        exact ⟨rfl, (Pu.refl w).alloc _⟩
  exact key _ rfl

set_option maxRecDepth 100000 in
theorem words_any (x : Nat) (w : World) (hx : x < 18446744073709551616) :
    Calls Tryd.prog 39 #[.int .u64 (x : Int)] w fun e w' => ∃ A n c l, e = .returned (.slice A n c) ∧ n ≤ 2 ∧ c ≤ 2 ∧ Sl w' 1 A n c (wds l) ∧ Below_ 4294967296 l ∧ Tidy l ∧ pval 4294967296 l = x ∧ Pu w w' := by
  have h1 : IntKind.u32.wrap (x : Int) = ((x % 4294967296 : Nat) : Int) := by rw [IntKind.wrap_u32]; omega
  have h2 : IntKind.u32.wrap ((x : Int) / 4294967296) = ((x / 4294967296 : Nat) : Int) := by rw [IntKind.wrap_u32]; omega
  go_enter Tryd.func39, Tryd.ntmps39
  go_wp2_with fail
  have hS := Sl.new w 67 #[.int .u32 ((x : Int) % 4294967296), .int .u32 ((x : Int) / 4294967296)] 1 2 2 rfl (Nat.le_refl _)
  have e : (#[Value.int .u32 ((x : Int) % 4294967296), .int .u32 ((x : Int) / 4294967296)] : Array Value).toList = wds [x % 4294967296, x / 4294967296] := by simp
  rw [e] at hS
  refine (trim_any _ 2 2 _ _ hS (by omega) (by simp [maxLen])).mono ?_
  rintro e w1 ⟨rfl, rfl⟩
  have hT := tidied_Sl hS
  have hB : Below_ 4294967296 [x % 4294967296, x / 4294967296] := by
    intro y hy
    simp at hy
    omega
  have hv : pval 4294967296 (tidied [x % 4294967296, x / 4294967296]) = x := by
    rw [tidied_val]
    simp only [pval]
    omega
  have hle := tidied_len [x % 4294967296, x / 4294967296]
  have fin := Lib.hid (And.intro (tidied_below hB) (And.intro (tidied_tidy [x % 4294967296, x / 4294967296]) hv))
  have Hw := Lib.hid hT
  clear hT hv hB e hS h1 h2
  go_wp2
  go_ret
  exact ⟨_, _, 2, _, rfl, hle, Nat.le_refl _, Hw.out, fin.out.1, fin.out.2.1, fin.out.2.2, (Pu.refl w).alloc _⟩

set_option maxRecDepth 100000 in
theorem from_any (z : Int) (w : World) (h1 : -9223372036854775808 ≤ z) (h2 : z ≤ 9223372036854775807) :
    Calls Tryd.prog 12 #[.int .i64 z] w fun e w' => ∃ v', e = .returned v' ∧ ZR w' v' z ∧ Pu w w' := by
  have hW : Pu w (w.alloc (.cells #[.bool false, .slice none 0 0] 25)) := (Pu.refl w).alloc _
  have hR : Blk (w.alloc (.cells #[.bool false, .slice none 0 0] 25)) w.heap.size 25 #[.bool false, .slice none 0 0] := Blk.new _ _ _
  rcases Int.lt_or_le z 0 with hz | hz
  · obtain ⟨x, hx⟩ : ∃ x : Nat, z = -(x : Int) := ⟨(-z).toNat, by omega⟩
    subst hx
    have hw := words_any x (w.alloc (.cells #[.bool false, .slice none 0 0] 25)) (by omega)
    have d1 : decide (-(x : Int) < 0) = true := by simp; omega
    have hu : IntKind.u64.wrap (-(x : Int)) = 18446744073709551616 - (x : Int) := by rw [IntKind.wrap_u64]; omega
    have hu2 : IntKind.u64.wrap (-(18446744073709551616 - (x : Int))) = (x : Int) := by rw [IntKind.wrap_u64]; omega
    go_enter Tryd.func12, Tryd.ntmps12
    go_wp2_with fail
    refine hw.mono ?_
    rintro e w1 ⟨A, n, c, l, rfl, hn, hc, hS, hB, hT, hv, h1'⟩
    have hm := made_any true A n c l _ hS (by omega) (by simp [maxLen]; omega) hB
    rw [hv] at hm
    have hR1 := hR.pu h1'
    go_wp2_with fail
    refine hm.mono ?_
    rintro e w2 ⟨v', rfl, hz', hP⟩
    have hR2 := hR1.pu hP
    have hv' := hz'
    obtain ⟨g', A', n', c', l', rfl, _⟩ := hv'
    have q0 : w2.cell? ⟨w.heap.size, 0, none⟩ = some (.bool false) := hR2.cell 0
    have q1 : w2.cell? ⟨w.heap.size, 1, none⟩ = some (.slice none 0 0) := hR2.cell 1
    have f0 : w2.frozen? ⟨w.heap.size, 0, none⟩ = false := hR2.frozen 0
    have f1 : w2.frozen? ⟨w.heap.size, 1, none⟩ = false := hR2.frozen 1
    obtain ⟨r0, r1, rz, rp⟩ := store_num hR2 g' A' n' c'
    go_wp2
    refine bodyPost_ret (v := .agg #[.bool g', .slice A' n' c']) (by simp [results, Tryd.results12, go_sem, r0, r1]) rfl ⟨_, rfl, ?_, rp _ ((hW.trans h1').trans hP) (Nat.le_refl _)⟩
    exact rz _ _ hz'
  · obtain ⟨x, hx⟩ : ∃ x : Nat, z = (x : Int) := ⟨z.toNat, by omega⟩
    subst hx
    have hw := words_any x (w.alloc (.cells #[.bool false, .slice none 0 0] 25)) (by omega)
    have d1 : decide ((x : Int) < 0) = false := by simp
    have hu : IntKind.u64.wrap (x : Int) = (x : Int) := by rw [IntKind.wrap_u64]; omega
    go_enter Tryd.func12, Tryd.ntmps12
    go_wp2_with fail
    refine hw.mono ?_
    rintro e w1 ⟨A, n, c, l, rfl, hn, hc, hS, hB, hT, hv, h1'⟩
    have hm := made_any false A n c l _ hS (by omega) (by simp [maxLen]; omega) hB
    rw [hv] at hm
    have hR1 := hR.pu h1'
    go_wp2_with fail
    refine hm.mono ?_
    rintro e w2 ⟨v', rfl, hz', hP⟩
    have hR2 := hR1.pu hP
    have hv' := hz'
    obtain ⟨g', A', n', c', l', rfl, _⟩ := hv'
    have q0 : w2.cell? ⟨w.heap.size, 0, none⟩ = some (.bool false) := hR2.cell 0
    have q1 : w2.cell? ⟨w.heap.size, 1, none⟩ = some (.slice none 0 0) := hR2.cell 1
    have f0 : w2.frozen? ⟨w.heap.size, 0, none⟩ = false := hR2.frozen 0
    have f1 : w2.frozen? ⟨w.heap.size, 1, none⟩ = false := hR2.frozen 1
    obtain ⟨r0, r1, rz, rp⟩ := store_num hR2 g' A' n' c'
    go_wp2
    refine bodyPost_ret (v := .agg #[.bool g', .slice A' n' c']) (by simp [results, Tryd.results12, go_sem, r0, r1]) rfl ⟨_, rfl, ?_, rp _ ((hW.trans h1').trans hP) (Nat.le_refl _)⟩
    exact rz _ _ hz'

/- zed: sign, compare, Cmp. -/
theorem sgnf_any (b : Bool) (w : World) : Calls Tryd.prog 40 #[.bool b] w fun e w' => e = .returned (.int .i64 (if b then -1 else 1)) ∧ w = w' := by
  cases b
  · go_enter Tryd.func40, Tryd.ntmps40
    go_wp2
    go_ret
    exact ⟨rfl, rfl⟩
  · go_enter Tryd.func40, Tryd.ntmps40
    go_wp2
    go_ret
    exact ⟨rfl, rfl⟩

/-- the order of two numbers -/
def cmpN (x y : Nat) : Int := if x < y then -1 else if y < x then 1 else 0
theorem cmpN_lt {x y : Nat} (h : x < y) : cmpN x y = -1 := by simp [cmpN, h]
theorem cmpN_gt {x y : Nat} (h : y < x) : cmpN x y = 1 := by
  unfold cmpN
  rw [if_neg (by omega), if_pos h]
theorem cmpN_eq (x : Nat) : cmpN x x = 0 := by
  unfold cmpN
  rw [if_neg (by omega), if_neg (by omega)]

/-- two lists with the same tail from k on, and another place there, are ordered by that place -/
theorem pval_split (b : Nat) (l : List Nat) (k : Nat) {x : Nat} (h : l[k]? = some x) : pval b l = pval b (l.take k) + b ^ k * (x + b * pval b (l.drop (k + 1))) := by
  have hk := (List.getElem?_eq_some_iff.1 h).1
  have e : l = l.take k ++ (x :: l.drop (k + 1)) := by
    have h1 := List.take_append_drop k l
    rw [List.drop_eq_getElem_cons hk] at h1
    have h2 : l[k] = x := by
      have := List.getElem?_eq_getElem hk
      rw [h] at this
      injection this with this
      exact this.symm
    rw [h2] at h1
    exact h1.symm
  have h1 : pval b l = pval b (l.take k ++ (x :: l.drop (k + 1))) := by rw [← e]
  rw [h1, pval_append]
  simp [pval, Nat.min_eq_left (Nat.le_of_lt hk)]
theorem pval_less {b : Nat} {l m : List Nat} {k x y : Nat} (hl : Below_ b l) (hx : l[k]? = some x) (hy : m[k]? = some y) (ht : l.drop (k + 1) = m.drop (k + 1)) (hxy : x < y) : pval b l < pval b m := by
  have hk := (List.getElem?_eq_some_iff.1 hx).1
  rw [pval_split b l k hx, pval_split b m k hy, ht]
  have h1 := pval_lt (hl.take k)
  rw [List.length_take, Nat.min_eq_left (Nat.le_of_lt hk)] at h1
  have h2 : b ^ k * (x + 1 + b * pval b (m.drop (k + 1))) ≤ b ^ k * (y + b * pval b (m.drop (k + 1))) := Nat.mul_le_mul_left _ (by omega)
  have h3 : b ^ k * (x + 1 + b * pval b (m.drop (k + 1))) = b ^ k * (x + b * pval b (m.drop (k + 1))) + b ^ k := by
    rw [show x + 1 + b * pval b (m.drop (k + 1)) = (x + b * pval b (m.drop (k + 1))) + 1 by omega, Nat.mul_add, Nat.mul_one]
  omega
theorem drop_at {l : List Nat} {j x : Nat} (h : l[j]? = some x) : l.drop j = x :: l.drop (j + 1) := by
  have hj := (List.getElem?_eq_some_iff.1 h).1
  rw [List.drop_eq_getElem_cons hj]
  congr 1
  have := List.getElem?_eq_getElem hj
  rw [h] at this
  injection this with this
  exact this.symm
theorem pval_shorter {b : Nat} (hb : 0 < b) {l m : List Nat} (hl : Below_ b l) (hm : Tidy m) (h : l.length < m.length) : pval b l < pval b m := by
  have h1 := pval_lt hl
  have h2 := pval_ge hb hm (fun e => by rw [e] at h; simp at h)
  have h3 : b ^ l.length ≤ b ^ (m.length - 1) := Nat.pow_le_pow_right hb (by omega)
  omega

set_option maxHeartbeats 1000000 in
set_option maxRecDepth 100000 in
theorem compare_any (A C : Option Addr) (n c m d : Nat) (l k : List Nat) (w : World) (h : Sl w 1 A n c (wds l)) (g : Sl w 1 C m d (wds k)) (hn : n ≤ 1000000) (hm : m ≤ 1000000)
    (hl : Below_ 4294967296 l) (hk : Below_ 4294967296 k) (tl : Tidy l) (tk : Tidy k) :
    Calls Tryd.prog 41 #[.slice A n c, .slice C m d] w fun e w' => e = .returned (.int .i64 (cmpN (pval 4294967296 l) (pval 4294967296 k))) ∧ Pu w w' := by
  have ll := h.wlen
  have lk := g.wlen
  have key : ∀ r, cmpN (pval 4294967296 l) (pval 4294967296 k) = r → Calls Tryd.prog 41 #[.slice A n c, .slice C m d] w fun e w' => e = .returned (.int .i64 r) ∧ Pu w w' := by
    intro r hr
    by_cases hnm : n = m
    · subst hnm
      have e0 : ((n : Int) != (n : Int)) = false := by simp
      have Hr := Lib.hid hr
      clear hr
      go_enter Tryd.func41, Tryd.ntmps41
      go_wp2_with fail
      go_loopw [5] (fun v ws => ∃ j : Nat, j ≤ n ∧ v = .int .i64 ((j : Int) - 1) ∧ l.drop j = k.drop j ∧ Pu w ws) (fun v _ => (intOf v + 1).toNat)
      case atStart => exact ⟨n, Nat.le_refl _, rfl, by rw [List.drop_eq_nil_of_le (by omega), List.drop_eq_nil_of_le (by omega)], Pu.refl _⟩
      case round =>
        obtain ⟨j, hj, rfl, hd, hP⟩ := hrel
        have HD := Lib.hid hd
        clear hd
        rcases j with _ | j
        · have er : r = 0 := by
            have := HD.out
            simp only [List.drop_zero] at this
            rw [← Hr.out, this, cmpN_eq]
          subst er
          go_wp2
          go_ret
          exact ⟨rfl, hP⟩
        · obtain ⟨x, hx⟩ : ∃ x, l[j]? = some x := ⟨_, List.getElem?_eq_getElem (by omega)⟩
          obtain ⟨y, hy⟩ : ∃ y, k[j]? = some y := ⟨_, List.getElem?_eq_getElem (by omega)⟩
          obtain ⟨b1, o1, e1, hb1, c1⟩ := (h.pu hP).wat hx
          obtain ⟨b2, o2, e2, hb2, c2⟩ := (g.pu hP).wat hy
          subst e1 e2
          have Hx := Lib.hid hx
          have Hy := Lib.hid hy
          clear hx hy
          have ej : ((j + 1 : Nat) : Int) - 1 = (j : Int) := by omega
          rw [ej]
          have hw1 : IntKind.i64.wrap ((j : Int) - 1) = (j : Int) - 1 := IntWalk.i64_in _ (by omega)
          have hjn : j < n := by omega
          by_cases exy : x = y
          · subst exy
            have ex : ((x : Int) != (x : Int)) = false := by simp
            go_wp2_with fail
            go_quiet (fail)
            go_wp2
            go_roundw
            case rel => exact ⟨j, by omega, by go_num, by rw [drop_at Hx.out, drop_at Hy.out, HD.out], hP.drewN _⟩
            case measure => simp [intOf]
          · have ex : ((x : Int) != (y : Int)) = true := by simp; omega
            rcases Nat.lt_or_gt_of_ne exy with h1 | h1
            · have ex2 : decide ((x : Int) < (y : Int)) = true := by simp; omega
              obtain rfl : r = -1 := by rw [← Hr.out]; exact cmpN_lt (pval_less hl Hx.out Hy.out HD.out h1)
              go_wp2_with fail
              go_quiet (fail)
              go_wp2_with fail
              go_region_with (go_at_call 40; refine (sgnf_any _ _).mono ?_; rintro e w1 ⟨rfl, rfl⟩)
              all_goals
                go_wp2
                go_ret
                exact ⟨rfl, by repeat (first | exact hP | apply Pu.drewN | apply Pu.drew)⟩
            · have ex2 : decide ((x : Int) < (y : Int)) = false := by simp; omega
              obtain rfl : r = 1 := by rw [← Hr.out]; exact cmpN_gt (pval_less hk Hy.out Hx.out HD.out.symm h1)
              go_wp2_with fail
              go_quiet (fail)
              go_wp2_with fail
              go_region_with (go_at_call 40; refine (sgnf_any _ _).mono ?_; rintro e w1 ⟨rfl, rfl⟩)
              all_goals
                go_wp2
                go_ret
                exact ⟨rfl, by repeat (first | exact hP | apply Pu.drewN | apply Pu.drew)⟩
    · have hnb : ((n : Int) != (m : Int)) = true := by simp; omega
      rcases Nat.lt_or_ge n m with h1 | h1
      · obtain rfl : r = -1 := by rw [← hr]; exact cmpN_lt (pval_shorter (by omega) hl tk (by omega))
        have e1 : decide ((n : Int) < (m : Int)) = true := by simp; omega
        go_enter Tryd.func41, Tryd.ntmps41
        go_wp2_with fail
        refine (sgnf_any _ _).mono ?_
        rintro e w1 ⟨rfl, rfl⟩
        go_wp2
        go_ret
        exact ⟨rfl, Pu.refl _⟩
      · obtain rfl : r = 1 := by rw [← hr]; exact cmpN_gt (pval_shorter (by omega) hk tl (by omega))
        have e1 : decide ((n : Int) < (m : Int)) = false := by simp; omega
        go_enter Tryd.func41, Tryd.ntmps41
        go_wp2_with fail
        refine (sgnf_any _ _).mono ?_
        rintro e w1 ⟨rfl, rfl⟩
        go_wp2
        go_ret
        exact ⟨rfl, Pu.refl _⟩
  exact key _ rfl
end Go.Proofs.YtckfnbckoclhpaaDoor
