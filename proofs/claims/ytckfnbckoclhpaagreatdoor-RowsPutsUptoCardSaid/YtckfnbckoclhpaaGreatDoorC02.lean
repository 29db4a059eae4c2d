/- zed: words in memory; trim, made, Neg, Abs, Sign. zed: Neg, Abs, Sign, words, From. zed: sign, compare, Cmp. zed: rows of numbers in memory, two cells each. -/
import Derived.Test.YtckfnbckoclhpaaGreatDoorProg
import Derived.Test.YtckfnbckoclhpaaGreatDoorC01
import Derived.Deep.QuietTactic
import Derived.Deep.RegionLaw
import Derived.PlainAid
namespace Go.Proofs.YtckfnbckoclhpaaGreatDoor
section
set_option linter.unusedVariables false
open Go.RowKit
/- zed: words in memory; trim, made, Neg, Abs, Sign. -/
abbrev wds (l : List Nat) : List Value := l.map fun x : Nat => Value.int .u32 (x : Int)
theorem Sl.wlen {w : World} {A : Option Addr} {n c : Nat} {l : List Nat} (h : Sl w 1 A n c (wds l)) : l.length = n := by have := h.1; simpa using this
theorem Sl.wat {w : World} {A : Option Addr} {n c : Nat} {l : List Nat} (h : Sl w 1 A n c (wds l)) {j x : Nat} (hj : l[j]? = some x) : ∃ b off, A = some ⟨b, off, none⟩ ∧ b < w.heap.size ∧ w.cell? ⟨b, off + j, none⟩ = some (.int .u32 (x : Int)) := by
  have hl := h.wlen
  have := (List.getElem?_eq_some_iff.1 hj).1
  obtain ⟨b, off, u, e, hb, hu, hc⟩ := h.at_ (j := j) (by omega)
  refine ⟨b, off, e, hb, ?_⟩
  rw [List.getElem?_map, hj] at hu
  injection hu with hu
  rw [hc, ← hu]
theorem Sl.pre {w : World} {A : Option Addr} {n c : Nat} {xs : List Value} (h : Sl w 1 A n c xs) {k : Nat} (hk : k ≤ n) : Sl w 1 A k c (xs.take k) := by
  have h1 := h.1
  refine ⟨by simp; omega, Nat.le_trans hk h.2.1, fun h0 => ?_⟩
  obtain ⟨b, off, e, hb, hc⟩ := h.2.2 (by omega)
  refine ⟨b, off, e, hb, fun j u hu => hc j u ?_⟩
  rw [List.getElem?_take] at hu
  split at hu
  · exact hu
  · cases hu
theorem wds_take (l : List Nat) (k : Nat) : wds (l.take k) = (wds l).take k := by simp [List.map_take]
theorem tidied_take_succ {l : List Nat} {k x : Nat} (h : l[k]? = some x) : tidied (l.take (k + 1)) = if x = 0 then tidied (l.take k) else l.take (k + 1) := by
  have e0 : l.take (k + 1) = l.take k ++ [x] := by rw [List.take_add_one, h]; rfl
  rw [e0]
  split
  · rename_i e
    rw [e, tidied_snoc0]
  · rename_i e
    rw [tidied_snoc _ e]
set_option maxRecDepth 100000 in
theorem trim_any (A : Option Addr) (n c : Nat) (l : List Nat) (w : World) (h : Sl w 1 A n c (wds l)) (hn : n ≤ 1000000) (hc : c ≤ maxLen) :
    Calls Tryz.prog 100 #[.slice A n c] w fun e w' => e = .returned (.slice A (tidied l).length c) ∧ w = w' := by
  have hl := h.wlen
  have hnc := h.2.1
  go_enter Tryz.func100, Tryz.ntmps100
  go_wp2_with fail
  go_loop [3] (fun i => ∃ j : Nat, j ≤ n ∧ i = .int .i64 j ∧ tidied l = tidied (l.take j)) (fun i => (intOf i).toNat)
  case atStart => exact ⟨n, Nat.le_refl _, rfl, by rw [List.take_of_length_le (by omega)]⟩
  case round =>
    obtain ⟨j, hj, rfl, ht⟩ := hrel
    have HT := Lib.hid ht
    clear ht
    rcases j with _ | k
    · have hc63 : c ≤ 9223372036854775807 := hc
      go_wp2
      all_goals
        go_ret
        exact ⟨by rw [HT.out]; rfl, rfl⟩
    · obtain ⟨x, hx⟩ : ∃ x, l[k]? = some x := ⟨_, List.getElem?_eq_getElem (by omega)⟩
      obtain ⟨b, off, rfl, hb, hcell⟩ := h.wat hx
      have Hx := Lib.hid hx
      clear hx
      have hw1 : IntKind.i64.wrap ((k : Int) + 1) = (k : Int) + 1 := IntWalk.i64_in _ (by omega)
      have hc63 : c ≤ 9223372036854775807 := hc
      by_cases e : x = 0
      · subst e
        go_wp2
        go_round
        case rel => exact ⟨k, by omega, by go_num, by rw [HT.out, tidied_take_succ Hx.out, if_pos rfl]⟩
        case measure => simp [intOf]
      · have hb0 : ((x : Int) == 0) = false := by simp; omega
        have E := Lib.hid e
        clear e
        go_wp2
        go_ret
        have e1 : tidied l = l.take (k + 1) := by rw [HT.out, tidied_take_succ Hx.out, if_neg E.out]
        exact ⟨by rw [e1, List.length_take, Nat.min_eq_left (by omega)]; rfl, rfl⟩
def sgn (g : Bool) (v : Nat) : Int := if g then -(v : Int) else (v : Int)
theorem sgn_zero (g : Bool) : sgn g 0 = 0 := by cases g <;> rfl
theorem sgn_abs (g : Bool) (v : Nat) : (sgn g v).natAbs = v := by cases g <;> simp [sgn]
def W32 (w : World) (A : Option Addr) (n : Nat) : Prop := 0 < n → ∀ b off, A = some ⟨b, off, none⟩ → ∃ cs fz, w.heap[b]? = some (.cells cs 169 fz)
theorem W32.none (w : World) (n : Nat) : W32 w none n := fun _ b off e => by cases e
theorem W32.fr {S : Nat → Prop} {w w' : World} {A : Option Addr} {n : Nat} (h : W32 w A n) (hf : Fr S w w') (hs : 0 < n → ∀ b off, A = some ⟨b, off, .none⟩ → ¬ S b) : W32 w' A n := fun hn b off e => by
  obtain ⟨cs, fz, hb⟩ := h hn b off e
  exact ⟨cs, fz, (hf.block b (Array.getElem?_eq_some_iff.1 hb).1 (hs hn b off e)).trans hb⟩
theorem W32.pu {w w' : World} {A : Option Addr} {n : Nat} (h : W32 w A n) (hp : Pu w w') : W32 w' A n := h.fr hp (fun _ _ _ _ x => x)
theorem W32.less {w : World} {A : Option Addr} {n m : Nat} (h : W32 w A n) (hm : m ≤ n) : W32 w A m := fun h0 => h (Nat.lt_of_lt_of_le h0 hm)
theorem W32.of_blk {w : World} {b off n : Nat} {cs : Array Value} (h : Blk w b 169 cs) : W32 w (some ⟨b, off, .none⟩) n := fun _ b' off' e => by
  injection e with e
  injection e with e1 _
  subst e1
  exact ⟨cs, _, h⟩
theorem W32.of_own {w : World} {base k n m c : Nat} {A : Option Addr} {xs : List Value} (h : w.ownsRow base 169 k (.slice A n c) n xs) : W32 w A m := fun _ b off e => by
  rcases h.2 with ⟨hv, _⟩ | ⟨g, cap, cur, hv, _, hg, _⟩
  · injection hv with hA _ _
    rw [hA] at e
    cases e
  · injection hv with hA _ _
    rw [hA] at e
    injection e with e
    injection e with e1 _
    subst e1
    exact ⟨cur, _, hg⟩
def ZR (w : World) (v : Value) (z : Int) : Prop :=
  ∃ neg A n c l, v = .agg #[.bool neg, .slice A n c] ∧ Sl w 1 A n c (wds l) ∧ Below_ 4294967296 l ∧ Tidy l ∧ (neg = true → l ≠ []) ∧ (c ≤ maxLen ∧ W32 w A n) ∧ z = sgn neg (pval 4294967296 l)
theorem ZR.pu {w w' : World} {v : Value} {z : Int} (h : ZR w v z) (hp : Pu w w') : ZR w' v z := by
  obtain ⟨neg, A, n, c, l, h1, h2, h3, h4, h5, h6, h7⟩ := h
  exact ⟨neg, A, n, c, l, h1, h2.pu hp, h3, h4, h5, ⟨h6.1, h6.2.pu hp⟩, h7⟩
theorem tidy_len {l : List Nat} (ht : Tidy l) {k : Nat} (h : pval 4294967296 l < 4294967296 ^ k) : l.length ≤ k := by
  rcases Decidable.em (l = []) with e | e
  · subst e
    exact Nat.zero_le _
  · have h1 := pval_ge (b := 4294967296) (by omega) ht e
    have h2 := (Nat.pow_lt_pow_iff_right (a := 4294967296) (by omega)).1 (Nat.lt_of_le_of_lt h1 h)
    omega
theorem tidied_Sl {w : World} {A : Option Addr} {n c : Nat} {l : List Nat} (h : Sl w 1 A n c (wds l)) : Sl w 1 A (tidied l).length c (wds (tidied l)) := by
  have hl := h.wlen
  obtain ⟨k, hk, e⟩ := tidied_prefix l
  have h1 := h.pre (k := k) (by omega)
  rw [← wds_take, ← e] at h1
  have h2 := h1.wlen
  rwa [← h2] at h1
theorem made_val (g : Bool) (l : List Nat) : sgn g (pval 4294967296 l) = sgn (g && decide (0 < (tidied l).length)) (pval 4294967296 (tidied l)) := by
  rw [tidied_val]
  cases g
  · rfl
  · by_cases h : 0 < (tidied l).length
    · simp [h]
    · have e : tidied l = [] := List.eq_nil_of_length_eq_zero (by omega)
      have e2 : pval 4294967296 l = 0 := by rw [← tidied_val, e]; rfl
      rw [e2, sgn_zero, sgn_zero]
def Beyond (k : Nat) (A : Option Addr) : Prop := ∀ b off, A = some ⟨b, off, none⟩ → k ≤ b
theorem Beyond.none (k : Nat) : Beyond k none := fun _ _ e => by cases e
theorem Beyond.own {w : World} {base k n c : Nat} {e : TypeId} {A : Option Addr} {xs : List Value} (h : w.ownsRow base e k (.slice A n c) n xs) : Beyond base A := own_ge h
theorem Beyond.le {k j : Nat} {A : Option Addr} (h : Beyond k A) (hj : j ≤ k) : Beyond j A := fun b off e => Nat.le_trans hj (h b off e)
def Bey (k : Nat) (v : Value) : Prop := ∀ g A n c, v = .agg #[.bool g, .slice A n c] → Beyond k A
theorem Bey.mk {k : Nat} {g : Bool} {A : Option Addr} {n c : Nat} (h : Beyond k A) : Bey k (.agg #[.bool g, .slice A n c]) := by
  intro g' A' n' c' e
  injection e with e
  have e1 : [Value.bool g, .slice A n c] = [Value.bool g', .slice A' n' c'] := by injection e
  injection e1 with e1 e2
  injection e2 with e2 _
  injection e2 with eA _ _
  rw [← eA]
  exact h
set_option maxRecDepth 100000 in
theorem made_new (g : Bool) (A : Option Addr) (n c : Nat) (l : List Nat) (w : World) (h : Sl w 1 A n c (wds l)) (hn : n ≤ 1000000) (hc : c ≤ maxLen) (hb : Below_ 4294967296 l) (hU : W32 w A n) :
    Calls Tryz.prog 63 #[.bool g, .slice A n c] w fun e w' => ∃ v, e = .returned v ∧ ZR w' v (sgn g (pval 4294967296 l)) ∧ (∀ k, Beyond k A → Bey k v) ∧ Pu w w' := by
  have hW : Pu w (w.alloc (.cells #[.bool false, .slice none 0 0] 30)) := (Pu.refl w).alloc _
  have hle := tidied_len l
  have hl := h.wlen
  have htr := trim_any A n c l _ (h.pu hW) hn hc
  have fin : ∀ neg, neg = (g && decide (0 < (tidied l).length)) → ZR (w.alloc (.cells #[.bool neg, .slice A (tidied l).length c] 30)) (.agg #[.bool neg, .slice A (tidied l).length c]) (sgn g (pval 4294967296 l)) := fun neg e => by
    refine ⟨neg, A, _, c, tidied l, rfl, tidied_Sl (h.pu ((Pu.refl w).alloc _)), tidied_below hb, tidied_tidy l, fun hg he => ?_, ⟨hc, (hU.pu ((Pu.refl w).alloc _)).less (by omega)⟩, by rw [e]; exact made_val g l⟩
    rw [hg, he] at e
    simp at e
  have Fin := Lib.hid fin
  clear fin
  generalize (tidied l).length = k at *
  go_enter Tryz.func63, Tryz.ntmps63
  go_wp2_with fail
  refine htr.mono ?_
  rintro e w1 ⟨rfl, rfl⟩
  cases g
  · go_wp2
    have c0 : (w.alloc (.cells #[.bool false, .slice A k c] 30)).cell? ⟨w.heap.size, 0, none⟩ = some (.bool false) := (Blk.new w _ _).cell 0
    have c1 : (w.alloc (.cells #[.bool false, .slice A k c] 30)).cell? ⟨w.heap.size, 1, none⟩ = some (.slice A k c) := (Blk.new w _ _).cell 1
    refine bodyPost_ret (v := .agg #[.bool false, .slice A k c]) (by simp [results, Tryz.results63, go_sem, c0, c1]) rfl ⟨_, rfl, Fin.out false (by simp), fun _ h => Bey.mk h, (Pu.refl w).alloc _⟩
  · rcases Nat.eq_zero_or_pos k with h0 | h0
    · subst h0
      go_wp2
      have c0 : (w.alloc (.cells #[.bool false, .slice A 0 c] 30)).cell? ⟨w.heap.size, 0, none⟩ = some (.bool false) := (Blk.new w _ _).cell 0
      have c1 : (w.alloc (.cells #[.bool false, .slice A 0 c] 30)).cell? ⟨w.heap.size, 1, none⟩ = some (.slice A 0 c) := (Blk.new w _ _).cell 1
      refine bodyPost_ret (v := .agg #[.bool false, .slice A 0 c]) (by simp [results, Tryz.results63, go_sem, c0, c1]) rfl ⟨_, rfl, Fin.out false (by simp), fun _ h => Bey.mk h, (Pu.refl w).alloc _⟩
    · have d1 : decide (0 < k) = true := by simp [h0]
      have d2 : decide (0 < (k : Int)) = true := by simp; omega
      have d3 : decide ((k : Int) > 0) = true := by simp; omega
      go_wp2
      have c0 : (w.alloc (.cells #[.bool true, .slice A k c] 30)).cell? ⟨w.heap.size, 0, none⟩ = some (.bool true) := (Blk.new w _ _).cell 0
      have c1 : (w.alloc (.cells #[.bool true, .slice A k c] 30)).cell? ⟨w.heap.size, 1, none⟩ = some (.slice A k c) := (Blk.new w _ _).cell 1
      refine bodyPost_ret (v := .agg #[.bool true, .slice A k c]) (by simp [results, Tryz.results63, go_sem, c0, c1]) rfl ⟨_, rfl, Fin.out true (by simp [h0]), fun _ h => Bey.mk h, (Pu.refl w).alloc _⟩
theorem made_any (g : Bool) (A : Option Addr) (n c : Nat) (l : List Nat) (w : World) (h : Sl w 1 A n c (wds l)) (hn : n ≤ 1000000) (hc : c ≤ maxLen) (hb : Below_ 4294967296 l) (hU : W32 w A n) :
    Calls Tryz.prog 63 #[.bool g, .slice A n c] w fun e w' => ∃ v, e = .returned v ∧ ZR w' v (sgn g (pval 4294967296 l)) ∧ Pu w w' :=
  (made_new g A n c l w h hn hc hb hU).mono fun _ _ ⟨v, h1, h2, _, h3⟩ => ⟨v, h1, h2, h3⟩
/- zed: Neg, Abs, Sign, words, From. -/
theorem ZR.frBlk {w w' : World} {v : Value} {z : Int} {rb : Nat} {t : TypeId} {cs : Array Value} (h : ZR w v z) (hb : Blk w rb t cs) (hcs : ∀ x : Int, Value.int .u32 x ∉ cs.toList) (hf : Fr (fun k => k = rb) w w') : ZR w' v z := by
  obtain ⟨neg, A, n, c, l, h1, h2, h3, h4, h5, h6, h7⟩ := h
  have hne : 0 < n → ∀ b off, A = some ⟨b, off, .none⟩ → ¬ b = rb := h2.ne_blk (by omega) hb fun u hu => by
    simp only [wds, List.mem_map] at hu
    obtain ⟨x, _, rfl⟩ := hu
    exact hcs _
  exact ⟨neg, A, n, c, l, h1, h2.fr hf hne, h3, h4, h5, ⟨h6.1, h6.2.fr hf hne⟩, h7⟩
theorem ZR.frT {S : Nat → Prop} {w w' : World} {v : Value} {z : Int} (h : ZR w v z) (hf : Fr S w w') (hs : ∀ g, S g → ∃ t cs fz, w.heap[g]? = some (.cells cs t fz) ∧ t ≠ 169) : ZR w' v z := by
  obtain ⟨neg, A, n, c, l, h1, h2, h3, h4, h5, h6, h7⟩ := h
  have hne : 0 < n → ∀ b off, A = some ⟨b, off, .none⟩ → ¬ S b := fun hn b off e hS => by
    obtain ⟨cs, fz, hb⟩ := h6.2 hn b off e
    obtain ⟨t, cs', fz', hb', ht⟩ := hs b hS
    rw [hb] at hb'
    injection hb' with hb'
    injection hb' with _ e2
    exact ht e2.symm
  exact ⟨neg, A, n, c, l, h1, h2.fr hf hne, h3, h4, h5, ⟨h6.1, h6.2.fr hf hne⟩, h7⟩
theorem store_num {w : World} {rb : Nat} {a0 : Bool} {a1 : Option Addr} {a2 a3 : Nat} (hb : Blk w rb 30 #[.bool a0, .slice a1 a2 a3]) (neg : Bool) (A : Option Addr) (n c : Nat) :
    ((w.setCell ⟨rb, 0, none⟩ (.bool neg)).setCell ⟨rb, 1, none⟩ (.slice A n c)).cell? ⟨rb, 0, none⟩ = some (.bool neg) ∧
    ((w.setCell ⟨rb, 0, none⟩ (.bool neg)).setCell ⟨rb, 1, none⟩ (.slice A n c)).cell? ⟨rb, 1, none⟩ = some (.slice A n c) ∧
    (∀ v z, ZR w v z → ZR ((w.setCell ⟨rb, 0, none⟩ (.bool neg)).setCell ⟨rb, 1, none⟩ (.slice A n c)) v z) ∧
    (∀ w0, Pu w0 w → w0.heap.size ≤ rb → Pu w0 ((w.setCell ⟨rb, 0, none⟩ (.bool neg)).setCell ⟨rb, 1, none⟩ (.slice A n c))) := by
  have hb2 := (hb.set_ 0 (.bool neg)).set_ 1 (.slice A n c)
  have hf : Fr (fun k => k = rb) w ((w.setCell ⟨rb, 0, none⟩ (.bool neg)).setCell ⟨rb, 1, none⟩ (.slice A n c)) := (Fr.one w rb 0 _).trans (Fr.one _ rb 1 _)
  refine ⟨hb2.cell 0, hb2.cell 1, fun v z h => h.frBlk hb (by simp) hf, fun w0 h h0 => h.step hf (fun k e => by omega)⟩
set_option maxRecDepth 100000 in
theorem neg_any (v : Value) (z : Int) (w : World) (h : ZR w v z) (hz : z.natAbs < 4294967296 ^ 40000) :
    Calls Tryz.prog 84 #[v] w fun e w' => ∃ v', e = .returned v' ∧ ZR w' v' (-z) ∧ Pu w w' := by
  obtain ⟨g, A, n, c, l, rfl, hs, hb, ht, hg, ⟨hc, hU⟩, rfl⟩ := h
  rw [sgn_abs] at hz
  have hn := tidy_len ht hz
  have hl := hs.wlen
  have hW : Pu w ((w.alloc (.cells #[.bool g, .slice A n c] 30)).alloc (.cells #[.bool false, .slice none 0 0] 30)) := ((Pu.refl w).alloc _).alloc _
  have hR : Blk ((w.alloc (.cells #[.bool g, .slice A n c] 30)).alloc (.cells #[.bool false, .slice none 0 0] 30)) (w.heap.size + 1) 30 #[.bool false, .slice none 0 0] := Blk.at_new _ _ _ (by simp)
  have hm := made_any (!g) A n c l _ (hs.pu hW) (by omega) hc hb (hU.pu hW)
  have e0 : -sgn g (pval 4294967296 l) = sgn (!g) (pval 4294967296 l) := by cases g <;> simp [sgn]
  rw [e0]
  clear e0
  go_enter Tryz.func84, Tryz.ntmps84
  go_wp2_with fail
  refine hm.mono ?_
  rintro e w1 ⟨v', rfl, hv, hP⟩
  have hR1 := hR.pu hP
  have hv' := hv
  obtain ⟨g', A', n', c', l', rfl, _⟩ := hv'
  have q0 : w1.cell? ⟨w.heap.size + 1, 0, none⟩ = some (.bool false) := hR1.cell 0
  have q1 : w1.cell? ⟨w.heap.size + 1, 1, none⟩ = some (.slice none 0 0) := hR1.cell 1
  have f0 : w1.frozen? ⟨w.heap.size + 1, 0, none⟩ = false := hR1.frozen 0
  have f1 : w1.frozen? ⟨w.heap.size + 1, 1, none⟩ = false := hR1.frozen 1
  obtain ⟨r0, r1, rz, rp⟩ := store_num hR1 g' A' n' c'
  go_wp2
  refine bodyPost_ret (v := .agg #[.bool g', .slice A' n' c']) (by simp [results, Tryz.results84, go_sem, r0, r1]) rfl ⟨_, rfl, rz _ _ hv, rp _ (hW.trans hP) (by omega)⟩
set_option maxRecDepth 100000 in
theorem abs_any (v : Value) (z : Int) (w : World) (h : ZR w v z) (hz : z.natAbs < 4294967296 ^ 40000) :
    Calls Tryz.prog 141 #[v] w fun e w' => ∃ v', e = .returned v' ∧ ZR w' v' (z.natAbs : Int) ∧ Pu w w' := by
  obtain ⟨g, A, n, c, l, rfl, hs, hb, ht, hg, ⟨hc, hU⟩, rfl⟩ := h
  rw [sgn_abs] at hz ⊢
  have hn := tidy_len ht hz
  have hl := hs.wlen
  have hW : Pu w ((w.alloc (.cells #[.bool g, .slice A n c] 30)).alloc (.cells #[.bool false, .slice none 0 0] 30)) := ((Pu.refl w).alloc _).alloc _
  have hR : Blk ((w.alloc (.cells #[.bool g, .slice A n c] 30)).alloc (.cells #[.bool false, .slice none 0 0] 30)) (w.heap.size + 1) 30 #[.bool false, .slice none 0 0] := Blk.at_new _ _ _ (by simp)
  have hm := made_any false A n c l _ (hs.pu hW) (by omega) hc hb (hU.pu hW)
  go_enter Tryz.func141, Tryz.ntmps141
  go_wp2_with fail
  refine hm.mono ?_
  rintro e w1 ⟨v', rfl, hv, hP⟩
  have hR1 := hR.pu hP
  have hv' := hv
  obtain ⟨g', A', n', c', l', rfl, _⟩ := hv'
  have q0 : w1.cell? ⟨w.heap.size + 1, 0, none⟩ = some (.bool false) := hR1.cell 0
  have q1 : w1.cell? ⟨w.heap.size + 1, 1, none⟩ = some (.slice none 0 0) := hR1.cell 1
  have f0 : w1.frozen? ⟨w.heap.size + 1, 0, none⟩ = false := hR1.frozen 0
  have f1 : w1.frozen? ⟨w.heap.size + 1, 1, none⟩ = false := hR1.frozen 1
  obtain ⟨r0, r1, rz, rp⟩ := store_num hR1 g' A' n' c'
  go_wp2
  refine bodyPost_ret (v := .agg #[.bool g', .slice A' n' c']) (by simp [results, Tryz.results141, go_sem, r0, r1]) rfl ⟨_, rfl, rz _ _ hv, rp _ (hW.trans hP) (by omega)⟩
theorem pval_pos {l : List Nat} (ht : Tidy l) (hl : l ≠ []) : 0 < pval 4294967296 l := by
  have h := pval_ge (b := 4294967296) (by omega) ht hl
  have := Nat.pow_pos (n := l.length - 1) (show 0 < 4294967296 by omega)
  omega
set_option maxRecDepth 100000 in
theorem sign_any (v : Value) (z : Int) (w : World) (h : ZR w v z) (hz : z.natAbs < 4294967296 ^ 40000) :
    Calls Tryz.prog 15 #[v] w fun e w' => e = .returned (.int .i64 z.sign) ∧ Pu w w' := by
  obtain ⟨g, A, n, c, l, rfl, hs, hb, ht, hg, ⟨hc, hU⟩, rfl⟩ := h
  rw [sgn_abs] at hz
  have hn := tidy_len ht hz
  have hl := hs.wlen
  have key : ∀ s, (sgn g (pval 4294967296 l)).sign = s → Calls Tryz.prog 15 #[.agg #[.bool g, .slice A n c]] w fun e w' => e = .returned (.int .i64 s) ∧ Pu w w' := by
    intro s hs'
    by_cases h0 : n = 0
    · obtain rfl : l = [] := List.eq_nil_of_length_eq_zero (by omega)
      obtain rfl : s = 0 := by rw [← hs', show pval 4294967296 [] = 0 from rfl, sgn_zero]; rfl
      subst h0
      go_enter Tryz.func15, Tryz.ntmps15
      go_wp2
      go_ret
      exact ⟨rfl, (Pu.refl w).alloc _⟩
    · have hp := pval_pos ht (fun e => by rw [e] at hl; simp at hl; omega)
      have e0 : ((n : Int) == 0) = false := by simp; omega
      generalize pval 4294967296 l = V at *
      clear hb ht hg hs
      cases g
      · obtain rfl : s = 1 := by rw [← hs']; exact Int.sign_eq_one_of_pos (by show (0 : Int) < (V : Int); omega)
        go_enter Tryz.func15, Tryz.ntmps15
        go_wp2
        go_ret
        exact ⟨rfl, (Pu.refl w).alloc _⟩
      · obtain rfl : s = -1 := by rw [← hs']; exact Int.sign_eq_neg_one_of_neg (by show -(V : Int) < 0; omega)
        go_enter Tryz.func15, Tryz.ntmps15
        go_wp2
        go_ret
        exact ⟨rfl, (Pu.refl w).alloc _⟩
  exact key _ rfl
set_option maxRecDepth 100000 in
theorem words_any (x : Nat) (w : World) (hx : x < 18446744073709551616) :
    Calls Tryz.prog 64 #[.int .u64 (x : Int)] w fun e w' => ∃ A n c l, e = .returned (.slice A n c) ∧ n ≤ 2 ∧ c ≤ 2 ∧ Sl w' 1 A n c (wds l) ∧ Below_ 4294967296 l ∧ Tidy l ∧ pval 4294967296 l = x ∧ W32 w' A n ∧ Pu w w' := by
  have h1 : IntKind.u32.wrap (x : Int) = ((x % 4294967296 : Nat) : Int) := by rw [IntKind.wrap_u32]; omega
  have h2 : IntKind.u32.wrap ((x : Int) / 4294967296) = ((x / 4294967296 : Nat) : Int) := by rw [IntKind.wrap_u32]; omega
  go_enter Tryz.func64, Tryz.ntmps64
  go_wp2_with fail
  have hS := Sl.new w 169 #[.int .u32 ((x : Int) % 4294967296), .int .u32 ((x : Int) / 4294967296)] 1 2 2 rfl (Nat.le_refl _)
  have e : (#[Value.int .u32 ((x : Int) % 4294967296), .int .u32 ((x : Int) / 4294967296)] : Array Value).toList = wds [x % 4294967296, x / 4294967296] := by simp
  rw [e] at hS
  refine (trim_any _ 2 2 _ _ hS (by omega) (by simp [maxLen])).mono ?_
  rintro e w1 ⟨rfl, rfl⟩
  have hT := tidied_Sl hS
  have hB : Below_ 4294967296 [x % 4294967296, x / 4294967296] := by
    intro y hy
    simp at hy
    omega
  have hv : pval 4294967296 (tidied [x % 4294967296, x / 4294967296]) = x := by
    rw [tidied_val]
    simp only [pval]
    omega
  have hle := tidied_len [x % 4294967296, x / 4294967296]
  have fin := Lib.hid (And.intro (tidied_below hB) (And.intro (tidied_tidy [x % 4294967296, x / 4294967296]) hv))
  have Hw := Lib.hid hT
  clear hT hv hB e hS h1 h2
  go_wp2
  go_ret
  exact ⟨_, _, 2, _, rfl, hle, Nat.le_refl _, Hw.out, fin.out.1, fin.out.2.1, fin.out.2.2, W32.of_blk (Blk.new _ _ _), (Pu.refl w).alloc _⟩
set_option maxRecDepth 100000 in
theorem from_any (z : Int) (w : World) (h1 : -9223372036854775808 ≤ z) (h2 : z ≤ 9223372036854775807) :
    Calls Tryz.prog 30 #[.int .i64 z] w fun e w' => ∃ v', e = .returned v' ∧ ZR w' v' z ∧ Pu w w' := by
  have hW : Pu w (w.alloc (.cells #[.bool false, .slice none 0 0] 30)) := (Pu.refl w).alloc _
  have hR : Blk (w.alloc (.cells #[.bool false, .slice none 0 0] 30)) w.heap.size 30 #[.bool false, .slice none 0 0] := Blk.new _ _ _
  rcases Int.lt_or_le z 0 with hz | hz
  · obtain ⟨x, hx⟩ : ∃ x : Nat, z = -(x : Int) := ⟨(-z).toNat, by omega⟩
    subst hx
    have hw := words_any x (w.alloc (.cells #[.bool false, .slice none 0 0] 30)) (by omega)
    have d1 : decide (-(x : Int) < 0) = true := by simp; omega
    have hu : IntKind.u64.wrap (-(x : Int)) = 18446744073709551616 - (x : Int) := by rw [IntKind.wrap_u64]; omega
    have hu2 : IntKind.u64.wrap (-(18446744073709551616 - (x : Int))) = (x : Int) := by rw [IntKind.wrap_u64]; omega
    go_enter Tryz.func30, Tryz.ntmps30
    go_wp2_with fail
    refine hw.mono ?_
    rintro e w1 ⟨A, n, c, l, rfl, hn, hc, hS, hB, hT, hv, hU, h1'⟩
    have hm := made_any true A n c l _ hS (by omega) (by simp [maxLen]; omega) hB hU
    rw [hv] at hm
    have hR1 := hR.pu h1'
    go_wp2_with fail
    refine hm.mono ?_
    rintro e w2 ⟨v', rfl, hz', hP⟩
    have hR2 := hR1.pu hP
    have hv' := hz'
    obtain ⟨g', A', n', c', l', rfl, _⟩ := hv'
    have q0 : w2.cell? ⟨w.heap.size, 0, none⟩ = some (.bool false) := hR2.cell 0
    have q1 : w2.cell? ⟨w.heap.size, 1, none⟩ = some (.slice none 0 0) := hR2.cell 1
    have f0 : w2.frozen? ⟨w.heap.size, 0, none⟩ = false := hR2.frozen 0
    have f1 : w2.frozen? ⟨w.heap.size, 1, none⟩ = false := hR2.frozen 1
    obtain ⟨r0, r1, rz, rp⟩ := store_num hR2 g' A' n' c'
    go_wp2
    refine bodyPost_ret (v := .agg #[.bool g', .slice A' n' c']) (by simp [results, Tryz.results30, go_sem, r0, r1]) rfl ⟨_, rfl, ?_, rp _ ((hW.trans h1').trans hP) (Nat.le_refl _)⟩
    exact rz _ _ hz'
  · obtain ⟨x, hx⟩ : ∃ x : Nat, z = (x : Int) := ⟨z.toNat, by omega⟩
    subst hx
    have hw := words_any x (w.alloc (.cells #[.bool false, .slice none 0 0] 30)) (by omega)
    have d1 : decide ((x : Int) < 0) = false := by simp
    have hu : IntKind.u64.wrap (x : Int) = (x : Int) := by rw [IntKind.wrap_u64]; omega
    go_enter Tryz.func30, Tryz.ntmps30
    go_wp2_with fail
    refine hw.mono ?_
    rintro e w1 ⟨A, n, c, l, rfl, hn, hc, hS, hB, hT, hv, hU, h1'⟩
    have hm := made_any false A n c l _ hS (by omega) (by simp [maxLen]; omega) hB hU
    rw [hv] at hm
    have hR1 := hR.pu h1'
    go_wp2_with fail
    refine hm.mono ?_
    rintro e w2 ⟨v', rfl, hz', hP⟩
    have hR2 := hR1.pu hP
    have hv' := hz'
    obtain ⟨g', A', n', c', l', rfl, _⟩ := hv'
    have q0 : w2.cell? ⟨w.heap.size, 0, none⟩ = some (.bool false) := hR2.cell 0
    have q1 : w2.cell? ⟨w.heap.size, 1, none⟩ = some (.slice none 0 0) := hR2.cell 1
    have f0 : w2.frozen? ⟨w.heap.size, 0, none⟩ = false := hR2.frozen 0
    have f1 : w2.frozen? ⟨w.heap.size, 1, none⟩ = false := hR2.frozen 1
    obtain ⟨r0, r1, rz, rp⟩ := store_num hR2 g' A' n' c'
    go_wp2
    refine bodyPost_ret (v := .agg #[.bool g', .slice A' n' c']) (by simp [results, Tryz.results30, go_sem, r0, r1]) rfl ⟨_, rfl, ?_, rp _ ((hW.trans h1').trans hP) (Nat.le_refl _)⟩
    exact rz _ _ hz'
/- zed: sign, compare, Cmp. -/
theorem sgnf_any (b : Bool) (w : World) : Calls Tryz.prog 153 #[.bool b] w fun e w' => e = .returned (.int .i64 (if b then -1 else 1)) ∧ w = w' := by
  cases b
  · go_enter Tryz.func153, Tryz.ntmps153
    go_wp2
    go_ret
    exact ⟨rfl, rfl⟩
  · go_enter Tryz.func153, Tryz.ntmps153
    go_wp2
    go_ret
    exact ⟨rfl, rfl⟩
def cmpN (x y : Nat) : Int := if x < y then -1 else if y < x then 1 else 0
theorem cmpN_lt {x y : Nat} (h : x < y) : cmpN x y = -1 := by simp [cmpN, h]
theorem cmpN_gt {x y : Nat} (h : y < x) : cmpN x y = 1 := by
  unfold cmpN
  rw [if_neg (by omega), if_pos h]
theorem cmpN_eq (x : Nat) : cmpN x x = 0 := by
  unfold cmpN
  rw [if_neg (by omega), if_neg (by omega)]
theorem pval_split (b : Nat) (l : List Nat) (k : Nat) {x : Nat} (h : l[k]? = some x) : pval b l = pval b (l.take k) + b ^ k * (x + b * pval b (l.drop (k + 1))) := by
  have hk := (List.getElem?_eq_some_iff.1 h).1
  have e : l = l.take k ++ (x :: l.drop (k + 1)) := by
    have h1 := List.take_append_drop k l
    rw [List.drop_eq_getElem_cons hk] at h1
    have h2 : l[k] = x := by
      have := List.getElem?_eq_getElem hk
      rw [h] at this
      injection this with this
      exact this.symm
    rw [h2] at h1
    exact h1.symm
  have h1 : pval b l = pval b (l.take k ++ (x :: l.drop (k + 1))) := by rw [← e]
  rw [h1, pval_append]
  simp [pval, Nat.min_eq_left (Nat.le_of_lt hk)]
theorem pval_less {b : Nat} {l m : List Nat} {k x y : Nat} (hl : Below_ b l) (hx : l[k]? = some x) (hy : m[k]? = some y) (ht : l.drop (k + 1) = m.drop (k + 1)) (hxy : x < y) : pval b l < pval b m := by
  have hk := (List.getElem?_eq_some_iff.1 hx).1
  rw [pval_split b l k hx, pval_split b m k hy, ht]
  have h1 := pval_lt (hl.take k)
  rw [List.length_take, Nat.min_eq_left (Nat.le_of_lt hk)] at h1
  have h2 : b ^ k * (x + 1 + b * pval b (m.drop (k + 1))) ≤ b ^ k * (y + b * pval b (m.drop (k + 1))) := Nat.mul_le_mul_left _ (by omega)
  have h3 : b ^ k * (x + 1 + b * pval b (m.drop (k + 1))) = b ^ k * (x + b * pval b (m.drop (k + 1))) + b ^ k := by
    rw [show x + 1 + b * pval b (m.drop (k + 1)) = (x + b * pval b (m.drop (k + 1))) + 1 by omega, Nat.mul_add, Nat.mul_one]
  omega
theorem drop_at {l : List Nat} {j x : Nat} (h : l[j]? = some x) : l.drop j = x :: l.drop (j + 1) := by
  have hj := (List.getElem?_eq_some_iff.1 h).1
  rw [List.drop_eq_getElem_cons hj]
  congr 1
  have := List.getElem?_eq_getElem hj
  rw [h] at this
  injection this with this
  exact this.symm
theorem pval_shorter {b : Nat} (hb : 0 < b) {l m : List Nat} (hl : Below_ b l) (hm : Tidy m) (h : l.length < m.length) : pval b l < pval b m := by
  have h1 := pval_lt hl
  have h2 := pval_ge hb hm (fun e => by rw [e] at h; simp at h)
  have h3 : b ^ l.length ≤ b ^ (m.length - 1) := Nat.pow_le_pow_right hb (by omega)
  omega
set_option maxHeartbeats 1000000 in
set_option maxRecDepth 100000 in
theorem compare_any (A C : Option Addr) (n c m d : Nat) (l k : List Nat) (w : World) (h : Sl w 1 A n c (wds l)) (g : Sl w 1 C m d (wds k)) (hn : n ≤ 1000000) (hm : m ≤ 1000000)
    (hl : Below_ 4294967296 l) (hk : Below_ 4294967296 k) (tl : Tidy l) (tk : Tidy k) :
    Calls Tryz.prog 126 #[.slice A n c, .slice C m d] w fun e w' => e = .returned (.int .i64 (cmpN (pval 4294967296 l) (pval 4294967296 k))) ∧ Pu w w' := by
  have ll := h.wlen
  have lk := g.wlen
  have key : ∀ r, cmpN (pval 4294967296 l) (pval 4294967296 k) = r → Calls Tryz.prog 126 #[.slice A n c, .slice C m d] w fun e w' => e = .returned (.int .i64 r) ∧ Pu w w' := by
    intro r hr
    by_cases hnm : n = m
    · subst hnm
      have e0 : ((n : Int) != (n : Int)) = false := by simp
      have Hr := Lib.hid hr
      clear hr
      go_enter Tryz.func126, Tryz.ntmps126
      go_wp2_with fail
      go_loopw [5] (fun v ws => ∃ j : Nat, j ≤ n ∧ v = .int .i64 ((j : Int) - 1) ∧ l.drop j = k.drop j ∧ Pu w ws) (fun v _ => (intOf v + 1).toNat)
      case atStart => exact ⟨n, Nat.le_refl _, rfl, by rw [List.drop_eq_nil_of_le (by omega), List.drop_eq_nil_of_le (by omega)], Pu.refl _⟩
      case round =>
        obtain ⟨j, hj, rfl, hd, hP⟩ := hrel
        have HD := Lib.hid hd
        clear hd
        rcases j with _ | j
        · have er : r = 0 := by
            have := HD.out
            simp only [List.drop_zero] at this
            rw [← Hr.out, this, cmpN_eq]
          subst er
          go_wp2
          go_ret
          exact ⟨rfl, hP⟩
        · obtain ⟨x, hx⟩ : ∃ x, l[j]? = some x := ⟨_, List.getElem?_eq_getElem (by omega)⟩
          obtain ⟨y, hy⟩ : ∃ y, k[j]? = some y := ⟨_, List.getElem?_eq_getElem (by omega)⟩
          obtain ⟨b1, o1, e1, hb1, c1⟩ := (h.pu hP).wat hx
          obtain ⟨b2, o2, e2, hb2, c2⟩ := (g.pu hP).wat hy
          subst e1 e2
          have Hx := Lib.hid hx
          have Hy := Lib.hid hy
          clear hx hy
          have ej : ((j + 1 : Nat) : Int) - 1 = (j : Int) := by omega
          rw [ej]
          have hw1 : IntKind.i64.wrap ((j : Int) - 1) = (j : Int) - 1 := IntWalk.i64_in _ (by omega)
          have hjn : j < n := by omega
          by_cases exy : x = y
          · subst exy
            have ex : ((x : Int) != (x : Int)) = false := by simp
            go_wp2_with fail
            go_quiet (fail)
            go_wp2
            go_roundw
            case rel => exact ⟨j, by omega, by go_num, by rw [drop_at Hx.out, drop_at Hy.out, HD.out], hP.drewN _⟩
            case measure => simp [intOf]
          · have ex : ((x : Int) != (y : Int)) = true := by simp; omega
            rcases Nat.lt_or_gt_of_ne exy with h1 | h1
            · have ex2 : decide ((x : Int) < (y : Int)) = true := by simp; omega
              obtain rfl : r = -1 := by rw [← Hr.out]; exact cmpN_lt (pval_less hl Hx.out Hy.out HD.out h1)
              go_wp2_with fail
              go_quiet (fail)
              go_wp2_with fail
              go_region_with (go_at_call 153; refine (sgnf_any _ _).mono ?_; rintro e w1 ⟨rfl, rfl⟩)
              all_goals
                go_wp2
                go_ret
                exact ⟨rfl, by repeat (first | exact hP | apply Pu.drewN | apply Pu.drew)⟩
            · have ex2 : decide ((x : Int) < (y : Int)) = false := by simp; omega
              obtain rfl : r = 1 := by rw [← Hr.out]; exact cmpN_gt (pval_less hk Hy.out Hx.out HD.out.symm h1)
              go_wp2_with fail
              go_quiet (fail)
              go_wp2_with fail
              go_region_with (go_at_call 153; refine (sgnf_any _ _).mono ?_; rintro e w1 ⟨rfl, rfl⟩)
              all_goals
                go_wp2
                go_ret
                exact ⟨rfl, by repeat (first | exact hP | apply Pu.drewN | apply Pu.drew)⟩
    · have hnb : ((n : Int) != (m : Int)) = true := by simp; omega
      rcases Nat.lt_or_ge n m with h1 | h1
      · obtain rfl : r = -1 := by rw [← hr]; exact cmpN_lt (pval_shorter (by omega) hl tk (by omega))
        have e1 : decide ((n : Int) < (m : Int)) = true := by simp; omega
        go_enter Tryz.func126, Tryz.ntmps126
        go_wp2_with fail
        refine (sgnf_any _ _).mono ?_
        rintro e w1 ⟨rfl, rfl⟩
        go_wp2
        go_ret
        exact ⟨rfl, Pu.refl _⟩
      · obtain rfl : r = 1 := by rw [← hr]; exact cmpN_gt (pval_shorter (by omega) hk tl (by omega))
        have e1 : decide ((n : Int) < (m : Int)) = false := by simp; omega
        go_enter Tryz.func126, Tryz.ntmps126
        go_wp2_with fail
        refine (sgnf_any _ _).mono ?_
        rintro e w1 ⟨rfl, rfl⟩
        go_wp2
        go_ret
        exact ⟨rfl, Pu.refl _⟩
  exact key _ rfl
end
section
set_option linter.unusedVariables false
open Go.RowKit
theorem eiZ : ElemI Tryz.prog 167 30 (.agg #[.bool false, .slice none 0 0]) 2 32 := ⟨Tryz.underlying167, by kernel_rfl, rfl, by decide⟩
abbrev Part := Bool × Option Addr × Nat × Nat
abbrev Part.val (q : Part) : Value := .agg #[.bool q.1, .slice q.2.1 q.2.2.1 q.2.2.2]
abbrev ics (l : List Part) : List Value := l.flatMap fun q => [.bool q.1, .slice q.2.1 q.2.2.1 q.2.2.2]
theorem ics_len : ∀ (l : List Part), (ics l).length = l.length * 2
  | [] => rfl
  | p :: l => by
    have := ics_len l
    simp only [ics, List.flatMap_cons, List.length_append, List.length_cons, List.length_nil] at this ⊢
    omega
theorem ics_append (l l' : List Part) : ics (l ++ l') = ics l ++ ics l' := by simp [ics]
theorem ics_one (l : List Part) : ∀ u ∈ ics l, u.oneCell' = true := by
  intro u hu
  simp only [ics, List.mem_flatMap] at hu
  obtain ⟨p, _, hu⟩ := hu
  simp at hu
  rcases hu with rfl | rfl <;> rfl
theorem ics_get (l : List Part) : ∀ (j : Nat) (q : Part), l[j]? = some q → (ics l)[j * 2]? = some (.bool q.1) ∧ (ics l)[j * 2 + 1]? = some (.slice q.2.1 q.2.2.1 q.2.2.2) := by
  induction l with
  | nil => intro j p h; simp at h
  | cons q l ih =>
    intro j p h
    cases j with
    | zero =>
      simp at h
      subst h
      simp [ics]
    | succ j =>
      have := ih j p (by simpa using h)
      have e : (j + 1) * 2 = j * 2 + 2 := by omega
      rw [e]
      simpa [ics] using this
def Hold (w : World) (l : List Part) (zs : List Int) : Prop := l.length = zs.length ∧ ∀ (i : Nat) (q : Part) (z : Int), l[i]? = some q → zs[i]? = some z → ZR w q.val z
theorem Hold.nil (w : World) : Hold w [] [] := ⟨rfl, fun i q z h => by simp at h⟩
theorem Hold.pu {w w' : World} {l : List Part} {zs : List Int} (h : Hold w l zs) (p : Pu w w') : Hold w' l zs := ⟨h.1, fun i q z h1 h2 => (h.2 i q z h1 h2).pu p⟩
theorem Hold.snoc {w : World} {l : List Part} {zs : List Int} {q : Part} {z : Int} (h : Hold w l zs) (hz : ZR w q.val z) : Hold w (l ++ [q]) (zs ++ [z]) := by
  refine ⟨by simp [h.1], fun i q' z' h1 h2 => ?_⟩
  have hl := h.1
  rcases Nat.lt_trichotomy i l.length with e | e | e
  · rw [List.getElem?_append_left e] at h1
    rw [List.getElem?_append_left (by omega)] at h2
    exact h.2 i q' z' h1 h2
  · subst e
    rw [List.getElem?_append_right (Nat.le_refl _)] at h1
    rw [List.getElem?_append_right (by omega)] at h2
    simp [hl] at h1 h2
    subst h1 h2
    exact hz
  · rw [List.getElem?_eq_none (by simp; omega)] at h1
    cases h1
def Far (S : Nat → Prop) (q : Part) : Prop := 0 < q.2.2.1 → ∀ b off, q.2.1 = some ⟨b, off, none⟩ → ¬ S b
theorem ZR.far {S : Nat → Prop} {w w' : World} {q : Part} {z : Int} (h : ZR w q.val z) (hf : Fr S w w') (hs : Far S q) : ZR w' q.val z := by
  obtain ⟨neg, A, n, c, l, e, h2, h3, h4, h5, h6, h7⟩ := h
  obtain ⟨g', A', n', c'⟩ := q
  injection e with e0
  have e1 : [Value.bool g', .slice A' n' c'] = [Value.bool neg, .slice A n c] := by injection e0
  injection e1 with e1 e2
  injection e2 with e2 _
  injection e2 with eA en ec
  injection e1 with e1
  subst e1 eA en ec
  exact ⟨_, _, _, _, l, rfl, h2.fr hf (fun hn b off hA => hs hn b off hA), h3, h4, h5, ⟨h6.1, h6.2.fr hf (fun hn b off hA => hs hn b off hA)⟩, h7⟩
theorem ZR.lt {w : World} {q : Part} {z : Int} (h : ZR w q.val z) : Far (fun k => w.heap.size ≤ k) q := by
  obtain ⟨neg, A, n, c, l, e, h2, h3⟩ := h
  obtain ⟨g', A', n', c'⟩ := q
  injection e with e0
  have e1 : [Value.bool g', .slice A' n' c'] = [Value.bool neg, .slice A n c] := by injection e0
  injection e1 with e1 e2
  injection e2 with e2 _
  injection e2 with eA en ec
  subst eA en ec
  intro hn b off hA
  obtain ⟨b', off', hA', hlt, _⟩ := h2.2.2 hn
  dsimp at hA
  rw [hA] at hA'
  injection hA' with hA'
  injection hA' with hA'
  subst hA'
  show ¬ w.heap.size ≤ b
  omega
theorem Bey.far {k : Nat} {q : Part} (h : Bey k q.val) : Far (fun b => b < k) q := by
  intro hn b off hA
  have := h _ _ _ _ rfl b off hA
  show ¬ b < k
  omega
theorem Far.mono {S T : Nat → Prop} {q : Part} (h : Far S q) (hs : ∀ k, T k → S k) : Far T q := fun hn b off hA hT => h hn b off hA (hs b hT)
structure OI (w : World) (base : Nat) (A : Option Addr) (n c : Nat) (l : List Part) (zs : List Int) : Prop where
  own : w.ownsRow base 30 2 (.slice A n c) n (ics l)
  hold : Hold w l zs
  far : ∀ q ∈ l, Far (fun k => (Value.slice A n c).ownBlock = some k) q
theorem OI.len {w : World} {base : Nat} {A : Option Addr} {n c : Nat} {l : List Part} {zs : List Int} (h : OI w base A n c l zs) : l.length = n ∧ zs.length = n := by
  have h1 := h.own.1
  rw [ics_len] at h1
  have h2 := h.hold.1
  omega
theorem OI.pu {w w' : World} {base : Nat} {A : Option Addr} {n c : Nat} {l : List Part} {zs : List Int} (h : OI w base A n c l zs) (p : Pu w w') : OI w' base A n c l zs := ⟨own_pu h.own p, h.hold.pu p, h.far⟩
theorem OI.nil (w : World) (base : Nat) : OI w base none 0 0 [] [] := ⟨World.ownsRow_nil _ _ _ _, Hold.nil w, fun q h => by cases h⟩
theorem OI.push {w w' : World} {base g n c cap : Nat} {A : Option Addr} {l : List Part} {zs : List Int} {q : Part} {z : Int} (h : OI w base A n c l zs) (hz : ZR w q.val z) (hq : Far (fun k => (Value.slice A n c).ownBlock = some k) q)
    (ho : w'.ownsRow base 30 2 (.slice (some ⟨g, 0, none⟩) (n + 1) cap) (n + 1) (ics l ++ [.bool q.1, .slice q.2.1 q.2.2.1 q.2.2.2])) (hg : w.grownBy w' (Value.slice A n c).ownBlock) (hw : (Value.slice A n c).ownBlock = some g ∨ g = w.heap.size) :
    OI w' base (some ⟨g, 0, none⟩) (n + 1) cap (l ++ [q]) (zs ++ [z]) := by
  have hf := Fr.of_grown hg
  have e : ics (l ++ [q]) = ics l ++ [.bool q.1, .slice q.2.1 q.2.2.1 q.2.2.2] := by rw [ics_append]; rfl
  have hh : Hold w (l ++ [q]) (zs ++ [z]) := h.hold.snoc hz
  have hfar : ∀ q' ∈ l ++ [q], Far (fun k => (Value.slice A n c).ownBlock = some k) q' := fun q' hq' => by
    rcases List.mem_append.1 hq' with h1 | h1
    · exact h.far q' h1
    · rw [List.mem_singleton.1 h1]
      exact hq
  refine ⟨by rw [e]; exact ho, ⟨hh.1, fun i q' z' h1 h2 => (hh.2 i q' z' h1 h2).far hf (hfar q' (List.mem_of_getElem? h1))⟩, fun q' hq' => ?_⟩
  rcases hw with hw | hw
  · rw [hw] at hfar
    exact hfar q' hq'
  · obtain ⟨i, hi⟩ := List.mem_iff_getElem?.1 hq'
    have hil : i < (zs ++ [z]).length := by
      have := (List.getElem?_eq_some_iff.1 hi).1
      have h2 := hh.1
      omega
    have hlt := (hh.2 i q' _ hi (List.getElem?_eq_getElem hil)).lt
    intro hn b off hA hb
    have hb' : some g = some b := hb
    injection hb' with hb'
    exact hlt hn b off hA (by show w.heap.size ≤ b; omega)
section
variable {P : Program} {w : World} {ops : Array Oper} {rest : List Oper} {o : Oper} {a : Act} {Q : Exit → Act → World → Prop}
theorem wpList_pushL {t e : TypeId} {z : Value} {size bytes : Nat} (E : ElemI P t e z size bytes) (hgd : o.guard = none) (s x : Operand)
    (ho : o.op = .call { callee := .builtin .append, args := #[s, x], argTypes := #[t, t] })
    {base n c q : Nat} {A : Option Addr} {xs : List Value} (us : Array Value) (hus : us.size = size) (h1 : ∀ u ∈ us.toList, u.oneCell' = true)
    (hs : a.eval s = .slice A n c) (hx : a.eval x = .slice (some ⟨q, 0, none⟩) 1 1) (hq : w.heap.size = q)
    (hown : w.ownsRow base e size (.slice A n c) n xs) (h63 : n + 1 ≤ maxLen) (hbytes : (n + 1) * bytes ≤ 140737488355328) (hbase : base ≤ w.heap.size)
    (h : ∀ g c' w', w'.ownsRow base e size (.slice (some ⟨g, 0, none⟩) (n + 1) c') (n + 1) (xs ++ us.toList) → (w.alloc (.cells us e)).grownBy w' (Value.slice A n c).ownBlock → ((Value.slice A n c).ownBlock = some g ∨ g = w.heap.size + 1) → wpList P ops Q rest (a.put o.dst (.slice (some ⟨g, 0, none⟩) (n + 1) c')) w') :
    wpList P ops Q (o :: rest) a (w.alloc (.cells us e)) := by
  obtain ⟨i, hi, hz, hsz, hby⟩ := info_parts E.info
  refine wpList_append_lies _ hgd s x t ho base e i z size bytes E.under hi hz hsz hby E.zs E.pos _ _ _ hs (hown.alloc _) ⟨w.heap.size, 0, none⟩ 1 1 us.toList (by rw [hq]; exact hx) (by simp [hus]) (fun j u hu => ?_) h1 (by omega) h63 hbytes (by simp; omega) (w.heap.size + 1) (by simp) ?_
  · rw [add_zero_, World.cell?_alloc_new]
    simpa using hu
  · intro g cap w' ho' hg hw _
    exact h g cap w' ho' hg hw
end
def IL (w : World) (A : Option Addr) (n c : Nat) (zs : List Int) : Prop := ∃ l, Sl w 2 A n c (ics l) ∧ Hold w l zs
theorem IL.pu {w w' : World} {A : Option Addr} {n c : Nat} {zs : List Int} (h : IL w A n c zs) (p : Pu w w') : IL w' A n c zs := by
  obtain ⟨l, h1, h2⟩ := h
  exact ⟨l, h1.pu p, h2.pu p⟩
theorem IL.len {w : World} {A : Option Addr} {n c : Nat} {zs : List Int} (h : IL w A n c zs) : zs.length = n := by
  obtain ⟨l, h1, h2⟩ := h
  have h3 := h1.1
  rw [ics_len] at h3
  have := h2.1
  omega
theorem OI.il {w : World} {base : Nat} {A : Option Addr} {n c : Nat} {l : List Part} {zs : List Int} (h : OI w base A n c l zs) : IL w A n c zs := ⟨l, Sl.of_own h.own, h.hold⟩
theorem IL.nil (w : World) (A : Option Addr) (c : Nat) : IL w A 0 c [] := ⟨[], Sl.nil _ _ _ _, Hold.nil w⟩
theorem IL.at_ {w : World} {A : Option Addr} {n c i : Nat} {zs : List Int} {z : Int} (h : IL w A n c zs) (hi : zs[i]? = some z) :
    ∃ b off g A1 n1 c1, A = some ⟨b, off, none⟩ ∧ b < w.heap.size ∧ w.cell? ⟨b, off + i * 2, none⟩ = some (.bool g) ∧ w.cell? ⟨b, off + i * 2 + 1, none⟩ = some (.slice A1 n1 c1) ∧ ZR w (.agg #[.bool g, .slice A1 n1 c1]) z := by
  have hl := h.len
  have hlt := (List.getElem?_eq_some_iff.1 hi).1
  obtain ⟨l, h1, h2⟩ := h
  have hll := h2.1
  obtain ⟨q, hq⟩ : ∃ q, l[i]? = some q := ⟨_, List.getElem?_eq_getElem (by omega)⟩
  obtain ⟨b, off, rfl, hb, hc⟩ := h1.2.2 (by omega)
  obtain ⟨c0, c1⟩ := ics_get l i q hq
  exact ⟨b, off, _, _, _, _, rfl, hb, hc _ _ c0, hc _ _ c1, h2.2 i q z hq hi⟩
end
end Go.Proofs.YtckfnbckoclhpaaGreatDoor
