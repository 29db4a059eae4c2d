/- The document's numbers (decimal digits as ints): plain sums; the word RZ. The document's numbers: Neg, compare, Cmp, Text. The document's numbers: plus. The document's numbers: minus. The document's numbers: Add. The document's numbers: From, of every number but the least. The document's numbers: Mul. -/
import Derived.Test.YtckfnbckoclhpaaGreatDoorC02
import Derived.Test.YtckfnbckoclhpaaGreatDoorC01
import Derived.Test.YtckfnbckoclhpaaGreatDoorC07
import Derived.Deep.RegionHeld3
import Derived.Laws.MakeOwn
namespace Go.Proofs.YtckfnbckoclhpaaGreatDoor
section
set_option linter.unusedVariables false
open Go.RowKit
abbrev dws (l : List Nat) : List Value := l.map fun x : Nat => Value.int .i64 (x : Int)
theorem Sl.dlen {w : World} {A : Option Addr} {n c : Nat} {l : List Nat} (h : Sl w 1 A n c (dws l)) : l.length = n := by have := h.1; simpa using this
theorem Sl.dat {w : World} {A : Option Addr} {n c : Nat} {l : List Nat} (h : Sl w 1 A n c (dws l)) {j x : Nat} (hj : l[j]? = some x) : ∃ b off, A = some ⟨b, off, none⟩ ∧ b < w.heap.size ∧ w.cell? ⟨b, off + j, none⟩ = some (.int .i64 (x : Int)) := by
  have hl := h.dlen
  have := (List.getElem?_eq_some_iff.1 hj).1
  obtain ⟨b, off, u, e, hb, hu, hc⟩ := h.at_ (j := j) (by omega)
  refine ⟨b, off, e, hb, ?_⟩
  rw [List.getElem?_map, hj] at hu
  injection hu with hu
  rw [hc, ← hu]
theorem dws_take (l : List Nat) (k : Nat) : dws (l.take k) = (dws l).take k := by simp [List.map_take]
theorem tidied_Dl {w : World} {A : Option Addr} {n c : Nat} {l : List Nat} (h : Sl w 1 A n c (dws l)) : Sl w 1 A (tidied l).length c (dws (tidied l)) := by
  have hl := h.dlen
  obtain ⟨k, hk, e⟩ := tidied_prefix l
  have h1 := h.pre (k := k) (by omega)
  rw [← dws_take, ← e] at h1
  have h2 := h1.dlen
  rwa [← h2] at h1
def IntAt (w : World) (A : Option Addr) : Prop := ∀ b off, A = some ⟨b, off, none⟩ → ∃ cs fz, w.heap[b]? = some (.cells cs 3 fz)
theorem IntAt.none (w : World) : IntAt w none := fun b off e => by cases e
theorem IntAt.fr {S : Nat → Prop} {w w' : World} {A : Option Addr} (h : IntAt w A) (hf : Fr S w w') (hs : ∀ b off cs fz, A = some ⟨b, off, .none⟩ → w.heap[b]? = some (.cells cs 3 fz) → ¬ S b) : IntAt w' A := fun b off e => by
  obtain ⟨cs, fz, hb⟩ := h b off e
  exact ⟨cs, fz, (hf.block b (Array.getElem?_eq_some_iff.1 hb).1 (hs b off cs fz e hb)).trans hb⟩
theorem IntAt.pu {w w' : World} {A : Option Addr} (h : IntAt w A) (hp : Pu w w') : IntAt w' A := h.fr hp (fun _ _ _ _ _ _ x => x)
theorem IntAt.ne {w : World} {A : Option Addr} {rb : Nat} {t : TypeId} {cs : Array Value} (h : IntAt w A) (hb : Blk w rb t cs) (ht : t ≠ 3) : ∀ b off, A = some ⟨b, off, .none⟩ → b ≠ rb := by
  rintro b off e rfl
  obtain ⟨cs', fz, hb'⟩ := h b off e
  unfold Blk at hb
  rw [hb] at hb'
  injection hb' with hb'
  injection hb' with _ ht'
  exact ht ht'
theorem IntAt.of_own {w : World} {base k n c : Nat} {A : Option Addr} {xs : List Value} (h : w.ownsRow base 3 k (.slice A n c) n xs) : IntAt w A := fun b off e => by
  rcases h.2 with ⟨hv, _⟩ | ⟨g, cap, cur, hv, _, hg, _⟩
  · injection hv with hA _ _
    rw [hA] at e
    cases e
  · injection hv with hA _ _
    rw [hA] at e
    injection e with e
    injection e with e1 _
    subst e1
    exact ⟨cur, _, hg⟩
def RZ (w : World) (v : Value) (z : Int) : Prop :=
  ∃ A n c l, v = .agg #[.int .i64 z.sign, .slice A n c] ∧ Sl w 1 A n c (dws l) ∧ Below_ 10 l ∧ Tidy l ∧ pval 10 l = z.natAbs ∧ c ≤ maxLen ∧ IntAt w A
theorem RZ.fr {w w' : World} {v : Value} {z : Int} {rb : Nat} {t : TypeId} {cs : Array Value} (h : RZ w v z) (hb : Blk w rb t cs) (ht : t ≠ 3) (hf : Fr (fun k => k = rb) w w') : RZ w' v z := by
  obtain ⟨A, n, c, l, h1, h2, h3, h4, h5, h6, h7⟩ := h
  have hne := h7.ne hb ht
  exact ⟨A, n, c, l, h1, h2.fr hf (fun _ b off e => hne b off e), h3, h4, h5, h6, h7.fr hf (fun b off _ _ e _ => hne b off e)⟩
theorem RZ.pu {w w' : World} {v : Value} {z : Int} (h : RZ w v z) (hp : Pu w w') : RZ w' v z := by
  obtain ⟨A, n, c, l, h1, h2, h3, h4, h5, h6, h7⟩ := h
  exact ⟨A, n, c, l, h1, h2.pu hp, h3, h4, h5, h6, h7.pu hp⟩
theorem tidy_len10 {l : List Nat} (ht : Tidy l) {k : Nat} (h : pval 10 l < 10 ^ k) : l.length ≤ k := by
  rcases Decidable.em (l = []) with e | e
  · subst e
    exact Nat.zero_le _
  · have h1 := pval_ge (b := 10) (by omega) ht e
    have h2 := (Nat.pow_lt_pow_iff_right (a := 10) (by omega)).1 (Nat.lt_of_le_of_lt h1 h)
    omega
theorem pval_pos10 {l : List Nat} (ht : Tidy l) (hl : l ≠ []) : 0 < pval 10 l := by
  have h := pval_ge (b := 10) (by omega) ht hl
  have := Nat.pow_pos (n := l.length - 1) (show 0 < 10 by omega)
  omega
theorem RZ.zero (w : World) : RZ w (.agg #[.int .i64 0, .slice none 0 0]) 0 := ⟨none, 0, 0, [], rfl, Sl.nil _ _ _ _, Below_.nil _, tidy_nil, rfl, by simp [maxLen], IntAt.none w⟩
theorem sign_mul_pos {s : Int} {V : Nat} (hs : s = 1 ∨ s = -1) (hV : 0 < V) : (s * (V : Int)).sign = s ∧ (s * (V : Int)).natAbs = V := by
  rcases hs with rfl | rfl
  · rw [Int.one_mul]
    exact ⟨Int.sign_eq_one_of_pos (by omega), by simp⟩
  · rw [Int.neg_one_mul]
    exact ⟨Int.sign_eq_neg_one_of_neg (by omega), by simp⟩
theorem dsum_step {s p c t r q v b : Nat} (h : s + p * c = t) (e : b * q + r = v + c) : s + p * r + p * b * q = t + p * v := by
  have h1 : p * (b * q + r) = p * (v + c) := by rw [e]
  rw [Nat.mul_add, Nat.mul_add, ← Nat.mul_assoc] at h1
  omega
def dat (l : List Nat) (j : Nat) : Nat := l[j]?.getD 0
theorem dat_some {l : List Nat} {j x : Nat} (h : l[j]? = some x) : dat l j = x := by simp [dat, h]
theorem dat_none {l : List Nat} {j : Nat} (h : l.length ≤ j) : dat l j = 0 := by simp [dat, List.getElem?_eq_none h]
theorem pval_take_dat (b : Nat) (l : List Nat) (j : Nat) : pval b (l.take (j + 1)) = pval b (l.take j) + b ^ j * dat l j := by
  rcases Nat.lt_or_ge j l.length with h | h
  · rw [pval_take_succ (List.getElem?_eq_getElem h), dat_some (List.getElem?_eq_getElem h)]
  · rw [List.take_of_length_le (by omega), List.take_of_length_le h, dat_none h]
    simp
theorem eiInt : ElemI Tryz.prog 52 3 (.int .i64 0) 1 8 := ⟨Tryz.underlying52, by kernel_rfl, rfl, by decide⟩
theorem own_dsnoc {w : World} {base n c r : Nat} {A : Option Addr} {os : List Nat} (h : w.ownsRow base 3 1 (.slice A n c) n (dws os ++ #[Value.int .i64 (r : Int)].toList)) : w.ownsRow base 3 1 (.slice A n c) n (dws (os ++ [r])) := by
  show w.ownsRow _ _ _ _ _ (List.map _ (_ ++ _))
  rw [List.map_append]
  exact h
set_option maxHeartbeats 1000000 in
set_option maxRecDepth 100000 in
theorem rmade_any (s : Int) (A : Option Addr) (n c : Nat) (l : List Nat) (w : World) (h : Sl w 1 A n c (dws l)) (hn : n ≤ 1000000) (hc : c ≤ maxLen) (hb : Below_ 10 l) (hI : IntAt w A) (hs : s = 1 ∨ s = -1 ∨ pval 10 l = 0) :
    Calls Tryz.prog 77 #[.int .i64 s, .slice A n c] w fun e w' => ∃ v, e = .returned v ∧ RZ w' v (s * (pval 10 l : Int)) ∧ Pu w w' := by
  have hl := h.dlen
  have hnc := h.2.1
  have hW : Pu w (w.alloc (.cells #[.int .i64 0, .slice none 0 0] 54)) := (Pu.refl w).alloc _
  have kA : Blk (w.alloc (.cells #[.int .i64 0, .slice none 0 0] 54)) w.heap.size 54 #[.int .i64 0, .slice none 0 0] := Blk.new _ _ _
  have hS := h.pu hW
  go_enter Tryz.func77, Tryz.ntmps77
  go_wp2_with fail
  go_loop [5] (fun i => ∃ j : Nat, j ≤ n ∧ i = .int .i64 j ∧ tidied l = tidied (l.take j)) (fun i => (intOf i).toNat)
  case atStart => exact ⟨n, Nat.le_refl _, rfl, by rw [List.take_of_length_le (by omega)]⟩
  case round =>
    obtain ⟨j, hj, rfl, ht⟩ := hrel
    have HT := Lib.hid ht
    clear ht
    rcases j with _ | k
    · have c0 : (w.alloc (.cells #[.int .i64 0, .slice none 0 0] 54)).cell? ⟨w.heap.size, 0, none⟩ = some (.int .i64 0) := kA.cell 0
      have c1 : (w.alloc (.cells #[.int .i64 0, .slice none 0 0] 54)).cell? ⟨w.heap.size, 1, none⟩ = some (.slice none 0 0) := kA.cell 1
      have e0 : pval 10 l = 0 := by rw [← tidied_val, HT.out]; rfl
      have E0 := Lib.hid e0
      clear e0
      go_wp2
      refine bodyPost_ret (v := .agg #[.int .i64 0, .slice none 0 0]) (by simp [results, Tryz.results77, go_sem, c0, c1]) rfl ⟨_, rfl, ?_, (Pu.refl w).alloc _⟩
      rw [E0.out, show ((0 : Nat) : Int) = 0 from rfl, Int.mul_zero]
      exact RZ.zero _
    · obtain ⟨x, hx⟩ : ∃ x, l[k]? = some x := ⟨_, List.getElem?_eq_getElem (by omega)⟩
      obtain ⟨b, off, rfl, hbl, hcell⟩ := hS.dat hx
      have Hx := Lib.hid hx
      clear hx
      have hw1 : IntKind.i64.wrap ((k : Int) + 1) = (k : Int) + 1 := IntWalk.i64_in _ (by omega)
      have hc63 : c ≤ 9223372036854775807 := hc
      by_cases e : x = 0
      · subst e
        go_wp2
        go_round
        case rel => exact ⟨k, by omega, by go_num, by rw [HT.out, tidied_take_succ Hx.out, if_pos rfl]⟩
        case measure => simp [intOf]
      · have hb0 : ((x : Int) == 0) = false := by simp; omega
        have e1 : tidied l = l.take (k + 1) := by rw [HT.out, tidied_take_succ Hx.out, if_neg e]
        have hlen : (tidied l).length = k + 1 := by rw [e1, List.length_take]; omega
        have hpos : 0 < pval 10 l := by
          rw [← tidied_val]
          exact pval_pos10 (tidied_tidy l) (fun e2 => by rw [e2] at hlen; simp at hlen)
        have hsg := sign_mul_pos (s := s) (V := pval 10 l) (by omega) hpos
        have fin : RZ (w.alloc (.cells #[.int .i64 s, .slice (some ⟨b, off, none⟩) (k + 1) c] 54)) (.agg #[.int .i64 s, .slice (some ⟨b, off, none⟩) (k + 1) c]) (s * (pval 10 l : Int)) := by
          have hT := tidied_Dl (h.pu ((Pu.refl w).alloc (.cells #[.int .i64 s, .slice (some ⟨b, off, none⟩) (k + 1) c] 54)))
          rw [hlen] at hT
          exact ⟨_, _, c, tidied l, by rw [hsg.1], hT, tidied_below hb, tidied_tidy l, by rw [tidied_val, hsg.2], hc, hI.pu ((Pu.refl w).alloc _)⟩
        have kB : Blk (w.alloc (.cells #[.int .i64 s, .slice (some ⟨b, off, none⟩) (k + 1) c] 54)) w.heap.size 54 #[.int .i64 s, .slice (some ⟨b, off, none⟩) (k + 1) c] := Blk.new _ _ _
        have c0 : (w.alloc (.cells #[.int .i64 s, .slice (some ⟨b, off, none⟩) (k + 1) c] 54)).cell? ⟨w.heap.size, 0, none⟩ = some (.int .i64 s) := kB.cell 0
        have c1 : (w.alloc (.cells #[.int .i64 s, .slice (some ⟨b, off, none⟩) (k + 1) c] 54)).cell? ⟨w.heap.size, 1, none⟩ = some (.slice (some ⟨b, off, none⟩) (k + 1) c) := kB.cell 1
        have Fin := Lib.hid fin
        clear e e1 hlen hpos hsg fin
        go_wp2
        exact bodyPost_ret (v := .agg #[.int .i64 s, .slice (some ⟨b, off, none⟩) (k + 1) c]) (by simp [results, Tryz.results77, go_sem, c0, c1]) rfl ⟨_, rfl, Fin.out, (Pu.refl w).alloc _⟩
theorem store_rz {w : World} {rb : Nat} {a0 : Int} {a1 : Option Addr} {a2 a3 : Nat} (hb : Blk w rb 54 #[.int .i64 a0, .slice a1 a2 a3]) (z0 : Int) (A : Option Addr) (n c : Nat) :
    ((w.setCell ⟨rb, 0, none⟩ (.int .i64 z0)).setCell ⟨rb, 1, none⟩ (.slice A n c)).cell? ⟨rb, 0, none⟩ = some (.int .i64 z0) ∧
    ((w.setCell ⟨rb, 0, none⟩ (.int .i64 z0)).setCell ⟨rb, 1, none⟩ (.slice A n c)).cell? ⟨rb, 1, none⟩ = some (.slice A n c) ∧
    (∀ w0, Pu w0 w → w0.heap.size ≤ rb → Pu w0 ((w.setCell ⟨rb, 0, none⟩ (.int .i64 z0)).setCell ⟨rb, 1, none⟩ (.slice A n c))) ∧
    (∀ v z, RZ w v z → RZ ((w.setCell ⟨rb, 0, none⟩ (.int .i64 z0)).setCell ⟨rb, 1, none⟩ (.slice A n c)) v z) := by
  have hb2 := (hb.set_ 0 (.int .i64 z0)).set_ 1 (.slice A n c)
  have hf : Fr (fun k => k = rb) w ((w.setCell ⟨rb, 0, none⟩ (.int .i64 z0)).setCell ⟨rb, 1, none⟩ (.slice A n c)) := (Fr.one w rb 0 _).trans (Fr.one _ rb 1 _)
  exact ⟨hb2.cell 0, hb2.cell 1, fun w0 h h0 => h.step hf (fun k e => by omega), fun v z h => h.fr hb (by decide) hf⟩
end
section
set_option linter.unusedVariables false
open Go.RowKit
set_option maxHeartbeats 1000000 in
set_option maxRecDepth 100000 in
theorem rcompare_any (A C : Option Addr) (n c m d : Nat) (l k : List Nat) (w : World) (h : Sl w 1 A n c (dws l)) (g : Sl w 1 C m d (dws k)) (hn : n ≤ 1000000) (hm : m ≤ 1000000) (hl : Below_ 10 l) (hk : Below_ 10 k) (tl : Tidy l) (tk : Tidy k) :
    Calls Tryz.prog 122 #[.slice A n c, .slice C m d] w fun e w' => e = .returned (.int .i64 (cmpN (pval 10 l) (pval 10 k))) ∧ Pu w w' := by
  have ll := h.dlen
  have lk := g.dlen
  have key : ∀ r, cmpN (pval 10 l) (pval 10 k) = r → Calls Tryz.prog 122 #[.slice A n c, .slice C m d] w fun e w' => e = .returned (.int .i64 r) ∧ Pu w w' := by
    intro r hr
    rcases Nat.lt_trichotomy n m with hnm | hnm | hnm
    · obtain rfl : r = -1 := by rw [← hr]; exact cmpN_lt (pval_shorter (by omega) hl tk (by omega))
      go_enter Tryz.func122, Tryz.ntmps122
      go_wp2
      go_ret
      exact ⟨rfl, Pu.refl w⟩
    · subst hnm
      have Hr := Lib.hid hr
      clear hr
      have hw0 : IntKind.i64.wrap ((n : Int) - 1) = (n : Int) - 1 := IntWalk.i64_in _ (by omega)
      go_enter Tryz.func122, Tryz.ntmps122
      go_wp2_with fail
      go_loopw [5] (fun v ws => ∃ j : Nat, j ≤ n ∧ v = .int .i64 ((j : Int) - 1) ∧ l.drop j = k.drop j ∧ Pu w ws) (fun v _ => (intOf v + 1).toNat)
      case atStart => exact ⟨n, Nat.le_refl _, rfl, by rw [List.drop_eq_nil_of_le (by omega), List.drop_eq_nil_of_le (by omega)], Pu.refl w⟩
      case round =>
        obtain ⟨j, hj, rfl, hd, hP⟩ := hrel
        have HD := Lib.hid hd
        clear hd
        rcases j with _ | j
        · have ej : ((0 : Nat) : Int) - 1 = -1 := rfl
          rw [ej]
          have e : l = k := by simpa using HD.out
          obtain rfl : r = 0 := by rw [← Hr.out, e, cmpN_eq]
          clear e
          go_wp2
          go_ret
          exact ⟨rfl, hP⟩
        · obtain ⟨x, hx⟩ : ∃ x, l[j]? = some x := ⟨_, List.getElem?_eq_getElem (by omega)⟩
          obtain ⟨y, hy⟩ : ∃ y, k[j]? = some y := ⟨_, List.getElem?_eq_getElem (by omega)⟩
          obtain ⟨b1, o1, rfl, hb1, c1⟩ := (h.pu hP).dat hx
          obtain ⟨b2, o2, rfl, hb2, c2⟩ := (g.pu hP).dat hy
          have Hx := Lib.hid hx
          have Hy := Lib.hid hy
          clear hx hy
          have ej : ((j + 1 : Nat) : Int) - 1 = (j : Int) := by omega
          rw [ej]
          have hw1 : IntKind.i64.wrap ((j : Int) - 1) = (j : Int) - 1 := IntWalk.i64_in _ (by omega)
          have hjn : j < n := by omega
          have hj0 : (0 : Int) ≤ (j : Int) := by omega
          have hj1 : (j : Int) < (n : Int) := by omega
          rcases Nat.lt_trichotomy x y with hxy | hxy | hxy
          · obtain rfl : r = -1 := by rw [← Hr.out]; exact cmpN_lt (pval_less hl Hx.out Hy.out HD.out hxy)
            have d1 : decide ((x : Int) < (y : Int)) = true := by simp; omega
            go_wp2_with fail
            go_quiet (fail)
            go_wp2
            go_ret
            first | exact ⟨rfl, hP.drewN _⟩ | exact ⟨rfl, (hP.drewN _).drewN _⟩
          · subst hxy
            have d1 : decide ((x : Int) < (x : Int)) = false := by simp
            have d2 : decide ((x : Int) > (x : Int)) = false := by simp
            go_wp2_with fail
            go_quiet (fail)
            go_wp2_with fail
            go_quiet (fail)
            go_wp2
            go_roundw
            case rel => exact ⟨j, by omega, rfl, by rw [drop_at Hx.out, drop_at Hy.out, HD.out], hP.drewN _⟩
            case measure => simp [intOf]
          · obtain rfl : r = 1 := by rw [← Hr.out]; exact cmpN_gt (pval_less hk Hy.out Hx.out HD.out.symm hxy)
            have d1 : decide ((x : Int) < (y : Int)) = false := by simp; omega
            have d2 : decide ((x : Int) > (y : Int)) = true := by simp; omega
            have d3 : decide ((y : Int) < (x : Int)) = true := by simp; omega
            go_wp2_with fail
            go_quiet (fail)
            go_wp2_with fail
            go_quiet (fail)
            go_wp2
            go_ret
            first | exact ⟨rfl, hP.drewN _⟩ | exact ⟨rfl, (hP.drewN _).drewN _⟩
    · obtain rfl : r = 1 := by rw [← hr]; exact cmpN_gt (pval_shorter (by omega) hk tl (by omega))
      go_enter Tryz.func122, Tryz.ntmps122
      go_wp2
      go_ret
      exact ⟨rfl, Pu.refl w⟩
  exact key _ rfl
end
section
set_option linter.unusedVariables false
open Go.RowKit
/- The document's numbers: plus. -/
theorem dplus_step {l k os : List Nat} {j cy q r : Nat} (ho : os.length = j) (hv : pval 10 os + 10 ^ j * cy = pval 10 (l.take j) + pval 10 (k.take j)) (e : 10 * q + r = dat l j + dat k j + cy) :
    pval 10 (os ++ [r]) + 10 ^ (j + 1) * q = pval 10 (l.take (j + 1)) + pval 10 (k.take (j + 1)) := by
  rw [pval_snoc, ho, Nat.pow_succ, pval_take_dat, pval_take_dat]
  have := dsum_step hv e
  rw [Nat.mul_add] at this
  omega
set_option maxHeartbeats 2000000 in
set_option maxRecDepth 100000 in
theorem rplus_any (A C : Option Addr) (n c m d : Nat) (l k : List Nat) (w : World) (h : Sl w 1 A n c (dws l)) (g : Sl w 1 C m d (dws k)) (hn : n ≤ 10000) (hm : m ≤ 10000) (hl : Below_ 10 l) (hk : Below_ 10 k) :
    Calls Tryz.prog 121 #[.slice A n c, .slice C m d] w fun e w' => ∃ A' n' c' o, e = .returned (.slice A' n' c') ∧ n' ≤ n + m + 1 ∧ c' ≤ maxLen ∧ Sl w' 1 A' n' c' (dws o) ∧ IntAt w' A' ∧ Below_ 10 o ∧ pval 10 o = pval 10 l + pval 10 k ∧ Pu w w' := by
  have ll := h.dlen
  have lk := g.dlen
  obtain ⟨M, hM⟩ : ∃ M, M = max n m := ⟨_, rfl⟩
  have hMn : n ≤ M := by omega
  have hMm : m ≤ M := by omega
  have hMs : M ≤ n + m := by omega
  have hM4 : M = n ∨ M = m := by omega
  clear hM
  go_enter Tryz.func121, Tryz.ntmps121
  go_wp2_with fail
  go_loopw [5, 6, 7] (fun ov cv iv ws => ∃ (j cy c1 : Nat) (A1 : Option Addr) (os : List Nat), j ≤ M + 1 ∧ (j = M + 1 → cy = 0) ∧ ov = .slice A1 j c1 ∧ cv = .int .i64 (cy : Int) ∧ iv = .int .i64 (j : Int) ∧ cy ≤ 1 ∧ ws.ownsRow w.heap.size 3 1 (.slice A1 j c1) j (dws os) ∧ os.length = j ∧ Below_ 10 os ∧ pval 10 os + 10 ^ j * cy = pval 10 (l.take j) + pval 10 (k.take j) ∧ Pu w ws) (fun _ _ iv _ => M + 2 - (intOf iv).toNat)
  case atStart => exact ⟨0, 0, 0, none, [], by omega, fun _ => rfl, rfl, rfl, rfl, by omega, World.ownsRow_nil _ _ _ _, rfl, Below_.nil _, by simp [pval], Pu.refl w⟩
  case round =>
    obtain ⟨j, cy, c1, A1, os, hj, hj0, rfl, rfl, rfl, hcy, ho, hol, hob, hv, hP⟩ := hrel
    have HV := Lib.hid hv
    have HJ0 := Lib.hid hj0
    clear hv hj0
    have hsz := hP.size
    by_cases hex : M ≤ j ∧ cy = 0
    · obtain ⟨hMj, rfl⟩ := hex
      have hv0 : pval 10 os = pval 10 l + pval 10 k := by
        have := HV.out
        rw [List.take_of_length_le (by omega), List.take_of_length_le (by omega)] at this
        omega
      have Hv0 := Lib.hid hv0
      have hle := own_le ho
      have hS := Sl.of_own ho
      have hI := IntAt.of_own ho
      clear hv0 ho
      go_wp2
      go_ret
      exact ⟨A1, j, c1, rfl, by omega, hle.2, os, hS, hI, hob, Hv0.out, hP⟩
    · have hjM : j ≤ M := by
        have := HJ0.out
        omega
      have hwj : IntKind.i64.wrap ((j : Int) + 1) = (j : Int) + 1 := IntWalk.i64_in _ (by omega)
      have hx9 : dat l j ≤ 9 := by
        rcases Nat.lt_or_ge j l.length with e | e
        · rw [dat_some (List.getElem?_eq_getElem e)]
          have := hl _ (List.getElem_mem e)
          omega
        · rw [dat_none e]
          omega
      have hy9 : dat k j ≤ 9 := by
        rcases Nat.lt_or_ge j k.length with e | e
        · rw [dat_some (List.getElem?_eq_getElem e)]
          have := hk _ (List.getElem_mem e)
          omega
        · rw [dat_none e]
          omega
      obtain ⟨x, hx⟩ : ∃ x, x = dat l j := ⟨_, rfl⟩
      obtain ⟨y, hy⟩ : ∃ y, y = dat k j := ⟨_, rfl⟩
      rw [← hx] at hx9
      rw [← hy] at hy9
      have hdm := Nat.div_add_mod (x + y + cy) 10
      have hr := Nat.mod_lt (x + y + cy) (show 10 > 0 by omega)
      have hq : (x + y + cy) / 10 ≤ 1 := by omega
      have hq0 : j = M → (x + y + cy) / 10 = 0 := by
        intro e
        have h1 : dat l j = 0 := dat_none (by omega)
        have h2 : dat k j = 0 := dat_none (by omega)
        rw [hx, hy, h1, h2]
        omega
      have e1 : ((cy : Int) + (x : Int) + (y : Int)) % 10 = (((x + y + cy) % 10 : Nat) : Int) := by omega
      have e2 : ((cy : Int) + (x : Int) + (y : Int)) / 10 = (((x + y + cy) / 10 : Nat) : Int) := by omega
      have hstep : pval 10 (os ++ [(x + y + cy) % 10]) + 10 ^ (j + 1) * ((x + y + cy) / 10) = pval 10 (l.take (j + 1)) + pval 10 (k.take (j + 1)) := dplus_step hol HV.out (by rw [hdm, hx, hy])
      have Hx := Lib.hid hx
      have Hy := Lib.hid hy
      have Hstep := Lib.hid hstep
      have Hq0 := Lib.hid hq0
      clear hstep hq0 hdm
      generalize (x + y + cy) / 10 = q at *
      generalize (x + y + cy) % 10 = r at *
      have hw1 : IntKind.i64.wrap ((cy : Int) + (x : Int)) = (cy : Int) + (x : Int) := IntWalk.i64_in _ (by omega)
      have hw2 : IntKind.i64.wrap ((cy : Int) + (x : Int) + (y : Int)) = (cy : Int) + (x : Int) + (y : Int) := IntWalk.i64_in _ (by omega)
      clear hx hy
      have z0 : ((0 : Nat) : Int) = 0 := rfl
      by_cases hjn : j < n <;> by_cases hjm : j < m
      · obtain ⟨q1, o1, rfl, hq1, cx⟩ := (h.pu hP).dat (j := j) (x := x) (by rw [Hx.out, dat, List.getElem?_eq_getElem (by omega)]; rfl)
        obtain ⟨q2, o2, rfl, hq2, cyc⟩ := (g.pu hP).dat (j := j) (x := y) (by rw [Hy.out, dat, List.getElem?_eq_getElem (by omega)]; rfl)
        clear z0
        go_wp2_with (at_builtin; refine wpList_push eiInt rfl (.tmp 44) (.tmp 47) rfl #[.int .i64 (r : Int)] rfl (by simp [Value.oneCell']) rfl rfl ho (by simp [maxLen]; omega) (by omega) hsz ?_)
        intro A3 c3 w3 ho3 hg3
        have hP3 := pu_push hP ho (Nat.le_refl _) hg3
        have ho4 := own_dsnoc ho3
        clear ho hg3 ho3 hsz hP
        go_wp2
        go_roundw
        case rel => exact ⟨j + 1, q, c3, A3, os ++ [r], by omega, fun e => Hq0.out (by omega), rfl, by rw [e2], by go_num, hq, ho4, by simp [hol], hob.snoc hr, Hstep.out, hP3⟩
        case measure => simp [intOf]; omega
      · obtain ⟨q1, o1, rfl, hq1, cx⟩ := (h.pu hP).dat (j := j) (x := x) (by rw [Hx.out, dat, List.getElem?_eq_getElem (by omega)]; rfl)
        obtain rfl : y = 0 := by rw [Hy.out]; exact dat_none (by omega)
        rw [z0, Int.add_zero] at e1 e2 hw2
        clear z0
        go_wp2_with (at_builtin; refine wpList_push eiInt rfl (.tmp 44) (.tmp 47) rfl #[.int .i64 (r : Int)] rfl (by simp [Value.oneCell']) rfl rfl ho (by simp [maxLen]; omega) (by omega) hsz ?_)
        intro A3 c3 w3 ho3 hg3
        have hP3 := pu_push hP ho (Nat.le_refl _) hg3
        have ho4 := own_dsnoc ho3
        clear ho hg3 ho3 hsz hP
        go_wp2
        go_roundw
        case rel => exact ⟨j + 1, q, c3, A3, os ++ [r], by omega, fun e => Hq0.out (by omega), rfl, by rw [e2], by go_num, hq, ho4, by simp [hol], hob.snoc hr, Hstep.out, hP3⟩
        case measure => simp [intOf]; omega
      · obtain ⟨q2, o2, rfl, hq2, cyc⟩ := (g.pu hP).dat (j := j) (x := y) (by rw [Hy.out, dat, List.getElem?_eq_getElem (by omega)]; rfl)
        obtain rfl : x = 0 := by rw [Hx.out]; exact dat_none (by omega)
        rw [z0, Int.add_zero] at e1 e2 hw2
        clear z0 hw1
        go_wp2_with (at_builtin; refine wpList_push eiInt rfl (.tmp 44) (.tmp 47) rfl #[.int .i64 (r : Int)] rfl (by simp [Value.oneCell']) rfl rfl ho (by simp [maxLen]; omega) (by omega) hsz ?_)
        intro A3 c3 w3 ho3 hg3
        have hP3 := pu_push hP ho (Nat.le_refl _) hg3
        have ho4 := own_dsnoc ho3
        clear ho hg3 ho3 hsz hP
        go_wp2
        go_roundw
        case rel => exact ⟨j + 1, q, c3, A3, os ++ [r], by omega, fun e => Hq0.out (by omega), rfl, by rw [e2], by go_num, hq, ho4, by simp [hol], hob.snoc hr, Hstep.out, hP3⟩
        case measure => simp [intOf]; omega
      · obtain rfl : x = 0 := by rw [Hx.out]; exact dat_none (by omega)
        obtain rfl : y = 0 := by rw [Hy.out]; exact dat_none (by omega)
        rw [z0, Int.add_zero, Int.add_zero] at e1 e2
        have hc1 : cy = 1 := by omega
        subst hc1
        have hr1 : r = 1 := by omega
        have hq1 : q = 0 := by omega
        subst hr1 hq1
        clear z0 hw1 hw2 e1 e2
        go_wp2_with (at_builtin; refine wpList_push eiInt rfl (.tmp 44) (.tmp 47) rfl #[.int .i64 1] rfl (by simp [Value.oneCell']) rfl rfl ho (by simp [maxLen]; omega) (by omega) hsz ?_)
        intro A3 c3 w3 ho3 hg3
        have hP3 := pu_push hP ho (Nat.le_refl _) hg3
        have ho4 := own_dsnoc (r := 1) ho3
        clear ho hg3 ho3 hsz hP
        go_wp2
        go_roundw
        case rel => exact ⟨j + 1, 0, c3, A3, os ++ [1], by omega, fun _ => rfl, rfl, rfl, by go_num, hq, ho4, by simp [hol], hob.snoc hr, Hstep.out, hP3⟩
        case measure => simp [intOf]; omega
/- The document's numbers: minus. -/
theorem dminus_step {l k os : List Nat} {j b b' r : Nat} (ho : os.length = j) (hv : pval 10 os + pval 10 (k.take j) = pval 10 (l.take j) + 10 ^ j * b) (e : r + dat k j + b = dat l j + 10 * b') :
    pval 10 (os ++ [r]) + pval 10 (k.take (j + 1)) = pval 10 (l.take (j + 1)) + 10 ^ (j + 1) * b' := by
  rw [pval_snoc, ho, Nat.pow_succ, pval_take_dat, pval_take_dat]
  have h1 : 10 ^ j * (r + dat k j + b) = 10 ^ j * (dat l j + 10 * b') := by rw [e]
  rw [Nat.mul_add, Nat.mul_add, Nat.mul_add, ← Nat.mul_assoc] at h1
  omega
set_option maxHeartbeats 2000000 in
set_option maxRecDepth 100000 in
theorem rminus_any (A C : Option Addr) (n c m d : Nat) (l k : List Nat) (w : World) (h : Sl w 1 A n c (dws l)) (g : Sl w 1 C m d (dws k)) (hn : n ≤ 10000) (hm : m ≤ 10000) (hl : Below_ 10 l) (hk : Below_ 10 k) (tk : Tidy k) (hle : pval 10 k ≤ pval 10 l) :
    Calls Tryz.prog 123 #[.slice A n c, .slice C m d] w fun e w' => ∃ A' n' c' o, e = .returned (.slice A' n' c') ∧ n' ≤ n ∧ c' ≤ maxLen ∧ Sl w' 1 A' n' c' (dws o) ∧ IntAt w' A' ∧ Below_ 10 o ∧ pval 10 o = pval 10 l - pval 10 k ∧ Pu w w' := by
  have ll := h.dlen
  have lk := g.dlen
  have hmn : m ≤ n := by
    rcases Nat.lt_or_ge n m with e | e
    · have := pval_shorter (b := 10) (by omega) hl tk (by omega)
      omega
    · exact e
  go_enter Tryz.func123, Tryz.ntmps123
  go_wp2_with fail
  go_loopw [5, 6, 7] (fun ov cv iv ws => ∃ (j b c1 : Nat) (A1 : Option Addr) (os : List Nat), j ≤ n ∧ ov = .slice A1 j c1 ∧ cv = .int .i64 (-(b : Int)) ∧ iv = .int .i64 (j : Int) ∧ b ≤ 1 ∧ ws.ownsRow w.heap.size 3 1 (.slice A1 j c1) j (dws os) ∧ os.length = j ∧ Below_ 10 os ∧ pval 10 os + pval 10 (k.take j) = pval 10 (l.take j) + 10 ^ j * b ∧ Pu w ws) (fun _ _ iv _ => n - (intOf iv).toNat)
  case atStart => exact ⟨0, 0, 0, none, [], by omega, rfl, rfl, rfl, by omega, World.ownsRow_nil _ _ _ _, rfl, Below_.nil _, by simp [pval], Pu.refl w⟩
  case round =>
    obtain ⟨j, b, c1, A1, os, hj, rfl, rfl, rfl, hb1, ho, hol, hob, hv, hP⟩ := hrel
    have HV := Lib.hid hv
    clear hv
    have hsz := hP.size
    by_cases hjn : j < n
    · have hwj : IntKind.i64.wrap ((j : Int) + 1) = (j : Int) + 1 := IntWalk.i64_in _ (by omega)
      obtain ⟨x, hx⟩ : ∃ x, x = dat l j := ⟨_, rfl⟩
      obtain ⟨y, hy⟩ : ∃ y, y = dat k j := ⟨_, rfl⟩
      have hx9 : x ≤ 9 := by
        rw [hx, dat_some (List.getElem?_eq_getElem (by omega))]
        have := hl _ (List.getElem_mem (l := l) (n := j) (by omega))
        omega
      have hy9 : y ≤ 9 := by
        rw [hy]
        rcases Nat.lt_or_ge j k.length with e | e
        · rw [dat_some (List.getElem?_eq_getElem e)]
          have := hk _ (List.getElem_mem e)
          omega
        · rw [dat_none e]
          omega
      obtain ⟨q1, o1, rfl, hq1, cx⟩ := (h.pu hP).dat (j := j) (x := x) (by rw [hx, dat, List.getElem?_eq_getElem (by omega)]; rfl)
      have hw1 : IntKind.i64.wrap (-(b : Int) + (x : Int)) = -(b : Int) + (x : Int) := IntWalk.i64_in _ (by omega)
      have hw2 : IntKind.i64.wrap (-(b : Int) + (x : Int) - (y : Int)) = -(b : Int) + (x : Int) - (y : Int) := IntWalk.i64_in _ (by omega)
      have hw3 : IntKind.i64.wrap (-(b : Int) + (x : Int) - (y : Int) + 10) = -(b : Int) + (x : Int) - (y : Int) + 10 := IntWalk.i64_in _ (by omega)
      have hw4 : IntKind.i64.wrap (-(b : Int) + (x : Int) + 10) = -(b : Int) + (x : Int) + 10 := IntWalk.i64_in _ (by omega)
      have hcell : j < m → ∃ q2 o2, C = some ⟨q2, o2, none⟩ ∧ q2 < wr.heap.size ∧ wr.cell? ⟨q2, o2 + j, none⟩ = some (.int .i64 (y : Int)) := fun e => (g.pu hP).dat (j := j) (x := y) (by rw [hy, dat, List.getElem?_eq_getElem (by omega)]; rfl)
      have hy0 : ¬ j < m → y = 0 := fun e => by rw [hy]; exact dat_none (by omega)
      have hstep := fun r b' => dminus_step (b := b) (b' := b') (r := r) hol HV.out
      rw [← hx, ← hy] at hstep
      have Hstep := Lib.hid hstep
      clear hstep hx hy
      have z0 : ((0 : Nat) : Int) = 0 := rfl
      by_cases hlt : x < y + b
      · obtain ⟨r, hr⟩ : ∃ r : Nat, (r : Int) = -(b : Int) + (x : Int) - (y : Int) + 10 := ⟨x + 10 - y - b, by omega⟩
        have hr9 : r < 10 := by omega
        have hst := Hstep.out r 1 (by omega)
        have Hst := Lib.hid hst
        have Hr := Lib.hid hr
        have d1 : decide (-(b : Int) + (x : Int) - (y : Int) < 0) = true := by simp; omega
        by_cases hjm : j < m
        · obtain ⟨q2, o2, rfl, hq2, cyc⟩ := hcell hjm
          clear hcell hy0 hst Hstep z0 hr
          go_wp2_with (at_builtin; refine wpList_push eiInt rfl (.tmp 32) (.tmp 35) rfl #[.int .i64 (-(b : Int) + (x : Int) - (y : Int) + 10)] rfl (by simp [Value.oneCell']) rfl rfl ho (by simp [maxLen]; omega) (by omega) hsz ?_)
          intro A3 c3 w3 ho3 hg3
          have hP3 := pu_push hP ho (Nat.le_refl _) hg3
          rw [← Hr.out] at ho3
          have ho4 := own_dsnoc ho3
          clear ho hg3 ho3 hsz hP
          go_wp2
          go_roundw
          case rel => exact ⟨j + 1, 1, c3, A3, os ++ [r], by omega, rfl, rfl, by go_num, by omega, ho4, by simp [hol], hob.snoc hr9, Hst.out, hP3⟩
          case measure => simp [intOf]; omega
        · obtain rfl : y = 0 := hy0 hjm
          rw [z0, Int.sub_zero] at d1
          clear hcell hy0 hst Hstep hr hw2 hw3
          have Hr2 : Hid ((r : Int) = -(b : Int) + (x : Int) + 10) := Lib.hid (by have := Hr.out; omega)
          clear z0
          go_wp2_with (at_builtin; refine wpList_push eiInt rfl (.tmp 32) (.tmp 35) rfl #[.int .i64 (-(b : Int) + (x : Int) + 10)] rfl (by simp [Value.oneCell']) rfl rfl ho (by simp [maxLen]; omega) (by omega) hsz ?_)
          intro A3 c3 w3 ho3 hg3
          have hP3 := pu_push hP ho (Nat.le_refl _) hg3
          rw [← Hr2.out] at ho3
          have ho4 := own_dsnoc ho3
          clear ho hg3 ho3 hsz hP
          go_wp2
          go_roundw
          case rel => exact ⟨j + 1, 1, c3, A3, os ++ [r], by omega, rfl, rfl, by go_num, by omega, ho4, by simp [hol], hob.snoc hr9, Hst.out, hP3⟩
          case measure => simp [intOf]; omega
      · obtain ⟨r, hr⟩ : ∃ r : Nat, (r : Int) = -(b : Int) + (x : Int) - (y : Int) := ⟨x - y - b, by omega⟩
        have hr9 : r < 10 := by omega
        have hst := Hstep.out r 0 (by omega)
        have Hst := Lib.hid hst
        have Hr := Lib.hid hr
        have d1 : decide (-(b : Int) + (x : Int) - (y : Int) < 0) = false := by simp; omega
        by_cases hjm : j < m
        · obtain ⟨q2, o2, rfl, hq2, cyc⟩ := hcell hjm
          clear hcell hy0 hst Hstep z0 hr
          go_wp2_with (at_builtin; refine wpList_push eiInt rfl (.tmp 37) (.tmp 39) rfl #[.int .i64 (-(b : Int) + (x : Int) - (y : Int))] rfl (by simp [Value.oneCell']) rfl rfl ho (by simp [maxLen]; omega) (by omega) hsz ?_)
          intro A3 c3 w3 ho3 hg3
          have hP3 := pu_push hP ho (Nat.le_refl _) hg3
          rw [← Hr.out] at ho3
          have ho4 := own_dsnoc ho3
          clear ho hg3 ho3 hsz hP
          go_wp2
          go_roundw
          case rel => exact ⟨j + 1, 0, c3, A3, os ++ [r], by omega, rfl, rfl, by go_num, by omega, ho4, by simp [hol], hob.snoc hr9, Hst.out, hP3⟩
          case measure => simp [intOf]; omega
        · obtain rfl : y = 0 := hy0 hjm
          rw [z0, Int.sub_zero] at d1
          have Hr2 : Hid ((r : Int) = -(b : Int) + (x : Int)) := Lib.hid (by have := Hr.out; omega)
          clear hcell hy0 hst Hstep hr hw2 hw3 z0
          go_wp2_with (at_builtin; refine wpList_push eiInt rfl (.tmp 37) (.tmp 39) rfl #[.int .i64 (-(b : Int) + (x : Int))] rfl (by simp [Value.oneCell']) rfl rfl ho (by simp [maxLen]; omega) (by omega) hsz ?_)
          intro A3 c3 w3 ho3 hg3
          have hP3 := pu_push hP ho (Nat.le_refl _) hg3
          rw [← Hr2.out] at ho3
          have ho4 := own_dsnoc ho3
          clear ho hg3 ho3 hsz hP
          go_wp2
          go_roundw
          case rel => exact ⟨j + 1, 0, c3, A3, os ++ [r], by omega, rfl, rfl, by go_num, by omega, ho4, by simp [hol], hob.snoc hr9, Hst.out, hP3⟩
          case measure => simp [intOf]; omega
    · obtain rfl : j = n := by omega
      have hv0 : pval 10 os = pval 10 l - pval 10 k := by
        have h1 := HV.out
        rw [List.take_of_length_le (by omega), List.take_of_length_le (by omega)] at h1
        have h2 := pval_lt hob
        rw [hol] at h2
        rcases (show b = 0 ∨ b = 1 by omega) with rfl | rfl
        · omega
        · omega
      have Hv0 := Lib.hid hv0
      have hle2 := own_le ho
      have hS := Sl.of_own ho
      have hI := IntAt.of_own ho
      clear hv0 ho
      go_wp2
      go_ret
      exact ⟨A1, j, c1, os, rfl, by omega, hle2.2, hS, hI, hob, Hv0.out, hP⟩
end
section
set_option linter.unusedVariables false
open Go.RowKit
theorem sign_abs_mul (z : Int) : z.sign * (z.natAbs : Int) = z := Int.sign_mul_natAbs z
theorem sign_one (z : Int) (h : z ≠ 0) : z.sign = 1 ∨ z.sign = -1 := by
  rcases Int.lt_trichotomy z 0 with h1 | h1 | h1
  · exact .inr (Int.sign_eq_neg_one_of_neg h1)
  · exact absurd h1 h
  · exact .inl (Int.sign_eq_one_of_pos h1)
theorem two_farz {w : World} {b : Nat} {u v : Value} {p : Addr} {x : Value} (hp : p.block ≠ b) (h : w.cell? p = some x) : ((w.setCell ⟨b, 0, none⟩ u).setCell ⟨b, 1, none⟩ v).cell? p = some x := ((Fr.one w b 0 u).trans (Fr.one _ b 1 v)).cellv h hp
set_option maxHeartbeats 4000000 in
set_option maxRecDepth 100000 in
theorem radd_any (v1 v2 : Value) (z1 z2 : Int) (w : World) (h1 : RZ w v1 z1) (h2 : RZ w v2 z2) (b1 : z1.natAbs < 10 ^ 200) (b2 : z2.natAbs < 10 ^ 200) :
    Calls Tryz.prog 78 #[v1, v2] w fun e w' => ∃ v', e = .returned v' ∧ RZ w' v' (z1 + z2) ∧ Pu w w' := by
  have h1' := h1
  have h2' := h2
  obtain ⟨A1, n1, c1, l1, rfl, hs1, hb1, ht1, hv1, hc1, hI1⟩ := h1
  obtain ⟨A2, n2, c2, l2, rfl, hs2, hb2, ht2, hv2, hc2, hI2⟩ := h2
  have hn1 := tidy_len10 ht1 (k := 200) (by rw [hv1]; exact b1)
  have hn2 := tidy_len10 ht2 (k := 200) (by rw [hv2]; exact b2)
  rw [hs1.dlen] at hn1
  rw [hs2.dlen] at hn2
  obtain ⟨s1, e1⟩ : ∃ s1, s1 = z1.sign := ⟨_, rfl⟩
  obtain ⟨s2, e2⟩ : ∃ s2, s2 = z2.sign := ⟨_, rfl⟩
  rw [← e1, ← e2]
  obtain ⟨W, hWe⟩ : ∃ W, W = ((w.alloc (.cells #[.int .i64 s1, .slice A1 n1 c1] 54)).alloc (.cells #[.int .i64 s2, .slice A2 n2 c2] 54)).alloc (.cells #[.int .i64 0, .slice none 0 0] 54) := ⟨_, rfl⟩
  have hW : Pu w W := by
    rw [hWe]
    exact (((Pu.refl w).alloc _).alloc _).alloc _
  have k1 : Blk W w.heap.size 54 #[.int .i64 s1, .slice A1 n1 c1] := by rw [hWe]; exact ((Blk.new w _ _).alloc _).alloc _
  have k2 : Blk W (w.heap.size + 1) 54 #[.int .i64 s2, .slice A2 n2 c2] := by rw [hWe]; exact (Blk.at_new _ _ _ (by simp)).alloc _
  have k3 : Blk W (w.heap.size + 2) 54 #[.int .i64 0, .slice none 0 0] := by rw [hWe]; exact Blk.at_new _ _ _ (by simp)
  have hS1 := hs1.pu hW
  have hS2 := hs2.pu hW
  have hJ1 := hI1.pu hW
  have hJ2 := hI2.pu hW
  rcases Decidable.em (z1 = 0) with hz1 | hz1
  · subst hz1
    obtain rfl : s1 = 0 := e1
    rw [← e2] at h2'
    clear hWe hW k1 k2 k3 hS1 hS2 hJ1 hJ2 e2 h1' hv1 hv2 hs1 hs2 hI1 hI2
    have PW : Pu w (((w.alloc (.cells #[.int .i64 0, .slice A1 n1 c1] 54)).alloc (.cells #[.int .i64 s2, .slice A2 n2 c2] 54)).alloc (.cells #[.int .i64 s2, .slice A2 n2 c2] 54)) := (((Pu.refl w).alloc _).alloc _).alloc _
    have kk : Blk (((w.alloc (.cells #[.int .i64 0, .slice A1 n1 c1] 54)).alloc (.cells #[.int .i64 s2, .slice A2 n2 c2] 54)).alloc (.cells #[.int .i64 s2, .slice A2 n2 c2] 54)) (w.heap.size + 2) 54 #[.int .i64 s2, .slice A2 n2 c2] := Blk.at_new _ _ _ (by simp)
    have r0 := kk.cell 0
    have r1 := kk.cell 1
    have Hf := Lib.hid (h2'.pu PW)
    clear h2'
    go_enter Tryz.func78, Tryz.ntmps78
    go_wp2
    exact bodyPost_ret (v := .agg #[.int .i64 s2, .slice A2 n2 c2]) (by simp [results, Tryz.results78, go_sem, r0, r1]) rfl ⟨_, rfl, by simpa using Hf.out, PW⟩
  · rcases Decidable.em (z2 = 0) with hz2 | hz2
    · subst hz2
      obtain rfl : s2 = 0 := e2
      have d1 : (s1 == 0) = false := by
        have := sign_one z1 hz1
        simp
        omega
      rw [← e1] at h1'
      clear hWe hW k1 k2 k3 hS1 hS2 hJ1 hJ2 e1 h2' hv1 hv2 hs1 hs2 hI1 hI2
      have PW : Pu w (((w.alloc (.cells #[.int .i64 s1, .slice A1 n1 c1] 54)).alloc (.cells #[.int .i64 0, .slice A2 n2 c2] 54)).alloc (.cells #[.int .i64 s1, .slice A1 n1 c1] 54)) := (((Pu.refl w).alloc _).alloc _).alloc _
      have kk : Blk (((w.alloc (.cells #[.int .i64 s1, .slice A1 n1 c1] 54)).alloc (.cells #[.int .i64 0, .slice A2 n2 c2] 54)).alloc (.cells #[.int .i64 s1, .slice A1 n1 c1] 54)) (w.heap.size + 2) 54 #[.int .i64 s1, .slice A1 n1 c1] := Blk.at_new _ _ _ (by simp)
      have r0 := kk.cell 0
      have r1 := kk.cell 1
      have Hf := Lib.hid (h1'.pu PW)
      clear h1'
      go_enter Tryz.func78, Tryz.ntmps78
      go_wp2
      exact bodyPost_ret (v := .agg #[.int .i64 s1, .slice A1 n1 c1]) (by simp [results, Tryz.results78, go_sem, r0, r1]) rfl ⟨_, rfl, by simpa using Hf.out, PW⟩
    · have hs1' := sign_one z1 hz1
      have hs2' := sign_one z2 hz2
      rw [← e1] at hs1'
      rw [← e2] at hs2'
      have d1 : (s1 == 0) = false := by simp; omega
      have d2 : (s2 == 0) = false := by simp; omega
      have m1 := sign_abs_mul z1
      have m2 := sign_abs_mul z2
      rw [← e1] at m1
      rw [← e2] at m2
      by_cases hss : s1 = s2
      · subst hss
        have d3 : (s1 == s1) = true := by simp
        have hz : s1 * (((z1.natAbs + z2.natAbs : Nat)) : Int) = z1 + z2 := by
          rw [Int.natCast_add, Int.mul_add, m1, m2]
        have HWe := Lib.hid hWe
        have Hz := Lib.hid hz
        have hV := Lib.hid (And.intro hv1 hv2)
        clear hWe hz m1 m2 e1 e2 hv1 hv2 h1' h2' hs1 hs2 hI1 hI2
        have hP : Pu W (((w.alloc (.cells #[.int .i64 s1, .slice A1 n1 c1] 54)).alloc (.cells #[.int .i64 s1, .slice A2 n2 c2] 54)).alloc (.cells #[.int .i64 0, .slice none 0 0] 54)).drew := by rw [← HWe.out]; exact (Pu.refl W).drew
        go_enter Tryz.func78, Tryz.ntmps78
        go_wp2_with fail
        go_region_held3 (fun u => u.cell? ⟨w.heap.size, 0, none⟩ = some (.int .i64 s1) ∧ u.cell? ⟨w.heap.size, 1, none⟩ = some (.slice A1 n1 c1) ∧ u.cell? ⟨w.heap.size + 1, 0, none⟩ = some (.int .i64 s1) ∧ u.cell? ⟨w.heap.size + 1, 1, none⟩ = some (.slice A2 n2 c2))
          (first | exact ⟨(k1.pu hP).cell 0, (k1.pu hP).cell 1, (k2.pu hP).cell 0, (k2.pu hP).cell 1⟩ | exact ⟨two_farz (by dsimp; omega) ((k1.pu hP).cell 0), two_farz (by dsimp; omega) ((k1.pu hP).cell 1), two_farz (by dsimp; omega) ((k2.pu hP).cell 0), two_farz (by dsimp; omega) ((k2.pu hP).cell 1)⟩ | go_keep)
          (first
            | (go_at_call 121; refine (rplus_any A1 A2 n1 c1 n2 c2 l1 l2 _ (hS1.pu hP) (hS2.pu hP) (by omega) (by omega) hb1 hb2).mono ?_; rintro e u1 ⟨A3, n3, c3, o, rfl, hn3, hc3, hS3, hI3, hb3, hv3, p3⟩; replace hP := hP.trans p3)
            | (go_at_call 77; refine (rmade_any s1 A3 n3 c3 o _ hS3 (by omega) hc3 hb3 hI3 (by omega)).mono ?_; rintro e u2 ⟨vr, rfl, hzr, p4⟩; replace hP := hP.trans p4; obtain ⟨zr, hzr0⟩ : ∃ zr : Int, zr = s1 * ((pval 10 o : Nat) : Int) := ⟨_, rfl⟩; rw [← hzr0] at hzr; have HZ := Lib.hid hzr0; clear hzr0; have hzr2 := hzr; obtain ⟨A4, n4, c4, l4, rfl, -⟩ := hzr2; have t0 : _ = some (Value.int .i64 0) := (k3.pu hP).cell 0; have t1 : _ = some (Value.slice none 0 0) := (k3.pu hP).cell 1; have g0 := (k3.pu hP).frozen 0; have g1 := (k3.pu hP).frozen 1))
        have hzf : zr = z1 + z2 := by
          rw [HZ.out]
          rw [hv3, hV.out.1, hV.out.2]
          exact Hz.out
        subst hzf
        obtain ⟨r0, r1, rp, rf⟩ := store_rz (k3.pu hP) (z1 + z2).sign A4 n4 c4
        have rz := rf _ _ hzr
        have PP := rp _ (hW.trans hP) (by omega)
        go_wp2
        exact bodyPost_ret (v := .agg #[.int .i64 (z1 + z2).sign, .slice A4 n4 c4]) (by simp [results, Tryz.results78, go_sem, r0, r1]) rfl ⟨_, rfl, rz, PP⟩
      · have d3 : (s1 == s2) = false := by simp; omega
        have hs12 : s2 = -s1 := by omega
        have hcmp := rcompare_any A1 A2 n1 c1 n2 c2 l1 l2 W hS1 hS2 (by omega) (by omega) hb1 hb2 ht1 ht2
        rw [hv1, hv2] at hcmp
        rcases Nat.lt_or_ge z1.natAbs z2.natAbs with hlt | hge
        · rw [cmpN_lt hlt, hWe] at hcmp
          have hz : s2 * (((z2.natAbs - z1.natAbs : Nat)) : Int) = z1 + z2 := by
            rw [Int.natCast_sub (by omega), Int.mul_sub, m2, hs12, Int.neg_mul, m1]
            omega
          have hz' : s2 * (((pval 10 l2 - pval 10 l1 : Nat)) : Int) = z1 + z2 := by rw [hv1, hv2]; exact hz
          have HWe := Lib.hid hWe
          have Hz := Lib.hid hz
          have hV := Lib.hid (And.intro hv2 hv1)
          have hle : pval 10 l1 ≤ pval 10 l2 := by omega
          have Hcmp := Lib.hid hcmp
          clear hWe hz hz' m1 m2 e1 e2 hv1 hv2 h1' h2' hs1 hs2 hI1 hI2 hcmp hs12
          go_enter Tryz.func78, Tryz.ntmps78
          go_wp2_with fail
          refine Hcmp.out.mono ?_
          rintro e w1 ⟨rfl, p1⟩
          rw [← HWe.out] at p1
          have q10 : w1.cell? ⟨w.heap.size, 0, none⟩ = some (.int .i64 s1) := (k1.pu p1).cell 0
          have hP : Pu W w1.drew := p1.drew
          go_wp2_with fail
          go_region_held3 (fun u => u.cell? ⟨w.heap.size, 0, none⟩ = some (.int .i64 s1) ∧ u.cell? ⟨w.heap.size, 1, none⟩ = some (.slice A1 n1 c1) ∧ u.cell? ⟨w.heap.size + 1, 0, none⟩ = some (.int .i64 s2) ∧ u.cell? ⟨w.heap.size + 1, 1, none⟩ = some (.slice A2 n2 c2))
            (first | exact ⟨(k1.pu hP).cell 0, (k1.pu hP).cell 1, (k2.pu hP).cell 0, (k2.pu hP).cell 1⟩ | exact ⟨two_farz (by dsimp; omega) ((k1.pu hP).cell 0), two_farz (by dsimp; omega) ((k1.pu hP).cell 1), two_farz (by dsimp; omega) ((k2.pu hP).cell 0), two_farz (by dsimp; omega) ((k2.pu hP).cell 1)⟩ | go_keep)
            (first
              | (go_at_call 123; refine (rminus_any A2 A1 n2 c2 n1 c1 l2 l1 _ (hS2.pu hP) (hS1.pu hP) (by omega) (by omega) hb2 hb1 ht1 hle).mono ?_; rintro e u1 ⟨A3, n3, c3, o, rfl, hn3, hc3, hS3, hI3, hb3, hv3, p3⟩; replace hP := hP.trans p3)
              | (go_at_call 77; refine (rmade_any s2 A3 n3 c3 o _ hS3 (by omega) hc3 hb3 hI3 (by omega)).mono ?_; rintro e u2 ⟨vr, rfl, hzr, p4⟩; replace hP := hP.trans p4; obtain ⟨zr, hzr0⟩ : ∃ zr : Int, zr = s2 * ((pval 10 o : Nat) : Int) := ⟨_, rfl⟩; rw [← hzr0] at hzr; have HZ := Lib.hid hzr0; clear hzr0; have hzr2 := hzr; obtain ⟨A4, n4, c4, l4, rfl, -⟩ := hzr2; have t0 : _ = some (Value.int .i64 0) := (k3.pu hP).cell 0; have t1 : _ = some (Value.slice none 0 0) := (k3.pu hP).cell 1; have g0 := (k3.pu hP).frozen 0; have g1 := (k3.pu hP).frozen 1))
          have hzf : zr = z1 + z2 := by
            rw [HZ.out]
            rw [hv3, hV.out.1, hV.out.2]
            exact Hz.out
          subst hzf
          obtain ⟨r0, r1, rp, rf⟩ := store_rz (k3.pu hP) (z1 + z2).sign A4 n4 c4
          have rz := rf _ _ hzr
          have PP := rp _ (hW.trans hP) (by omega)
          go_wp2
          exact bodyPost_ret (v := .agg #[.int .i64 (z1 + z2).sign, .slice A4 n4 c4]) (by simp [results, Tryz.results78, go_sem, r0, r1]) rfl ⟨_, rfl, rz, PP⟩
        · obtain ⟨s, hse, ds⟩ : ∃ s, cmpN z1.natAbs z2.natAbs = s ∧ decide (s ≥ 0) = true ∧ decide (0 ≤ s) = true := by
            rcases Nat.lt_or_eq_of_le hge with h | h
            · exact ⟨1, cmpN_gt h, rfl, rfl⟩
            · exact ⟨0, by rw [h, cmpN_eq], rfl, rfl⟩
          obtain ⟨ds, ds2⟩ := ds
          rw [hse, hWe] at hcmp
          have hz : s1 * (((z1.natAbs - z2.natAbs : Nat)) : Int) = z1 + z2 := by
            have m3 : s1 * (z2.natAbs : Int) = -z2 := by
              rw [hs12, Int.neg_mul] at m2
              omega
            rw [Int.natCast_sub (by omega), Int.mul_sub, m1, m3]
            omega
          have HWe := Lib.hid hWe
          have Hz := Lib.hid hz
          have hV := Lib.hid (And.intro hv1 hv2)
          have hle : pval 10 l2 ≤ pval 10 l1 := by omega
          have Hcmp := Lib.hid hcmp
          clear hWe hz m1 m2 e1 e2 hv1 hv2 h1' h2' hs1 hs2 hI1 hI2 hcmp hs12 hse
          go_enter Tryz.func78, Tryz.ntmps78
          go_wp2_with fail
          refine Hcmp.out.mono ?_
          rintro e w1 ⟨rfl, p1⟩
          rw [← HWe.out] at p1
          have q10 : w1.cell? ⟨w.heap.size, 0, none⟩ = some (.int .i64 s1) := (k1.pu p1).cell 0
          have hP : Pu W w1.drew := p1.drew
          go_wp2_with fail
          go_region_held3 (fun u => u.cell? ⟨w.heap.size, 0, none⟩ = some (.int .i64 s1) ∧ u.cell? ⟨w.heap.size, 1, none⟩ = some (.slice A1 n1 c1) ∧ u.cell? ⟨w.heap.size + 1, 0, none⟩ = some (.int .i64 s2) ∧ u.cell? ⟨w.heap.size + 1, 1, none⟩ = some (.slice A2 n2 c2))
            (first | exact ⟨(k1.pu hP).cell 0, (k1.pu hP).cell 1, (k2.pu hP).cell 0, (k2.pu hP).cell 1⟩ | exact ⟨two_farz (by dsimp; omega) ((k1.pu hP).cell 0), two_farz (by dsimp; omega) ((k1.pu hP).cell 1), two_farz (by dsimp; omega) ((k2.pu hP).cell 0), two_farz (by dsimp; omega) ((k2.pu hP).cell 1)⟩ | go_keep)
            (first
              | (go_at_call 123; refine (rminus_any A1 A2 n1 c1 n2 c2 l1 l2 _ (hS1.pu hP) (hS2.pu hP) (by omega) (by omega) hb1 hb2 ht2 hle).mono ?_; rintro e u1 ⟨A3, n3, c3, o, rfl, hn3, hc3, hS3, hI3, hb3, hv3, p3⟩; replace hP := hP.trans p3)
              | (go_at_call 77; refine (rmade_any s1 A3 n3 c3 o _ hS3 (by omega) hc3 hb3 hI3 (by omega)).mono ?_; rintro e u2 ⟨vr, rfl, hzr, p4⟩; replace hP := hP.trans p4; obtain ⟨zr, hzr0⟩ : ∃ zr : Int, zr = s1 * ((pval 10 o : Nat) : Int) := ⟨_, rfl⟩; rw [← hzr0] at hzr; have HZ := Lib.hid hzr0; clear hzr0; have hzr2 := hzr; obtain ⟨A4, n4, c4, l4, rfl, -⟩ := hzr2; have t0 : _ = some (Value.int .i64 0) := (k3.pu hP).cell 0; have t1 : _ = some (Value.slice none 0 0) := (k3.pu hP).cell 1; have g0 := (k3.pu hP).frozen 0; have g1 := (k3.pu hP).frozen 1))
          have hzf : zr = z1 + z2 := by
            rw [HZ.out]
            rw [hv3, hV.out.1, hV.out.2]
            exact Hz.out
          subst hzf
          obtain ⟨r0, r1, rp, rf⟩ := store_rz (k3.pu hP) (z1 + z2).sign A4 n4 c4
          have rz := rf _ _ hzr
          have PP := rp _ (hW.trans hP) (by omega)
          go_wp2
          exact bodyPost_ret (v := .agg #[.int .i64 (z1 + z2).sign, .slice A4 n4 c4]) (by simp [results, Tryz.results78, go_sem, r0, r1]) rfl ⟨_, rfl, rz, PP⟩
end
section
set_option linter.unusedVariables false
open Go.RowKit
theorem ten_few {n k N : Nat} (hk : 0 < k) (h : 10 ^ n * k ≤ N) (hN : N ≤ 9223372036854775807) : n < 19 := by
  rcases Nat.lt_or_ge n 19 with c | c
  · exact c
  · have h1 : 10 ^ 19 ≤ 10 ^ n := Nat.pow_le_pow_right (by omega) c
    have h2 : 10 ^ n * 1 ≤ 10 ^ n * k := Nat.mul_le_mul_left _ hk
    have h3 : (10 : Nat) ^ 19 = 10000000000000000000 := by decide
    omega
set_option maxHeartbeats 1500000 in
set_option maxRecDepth 100000 in
theorem rfrom_any (z : Int) (w : World) (hz : z.natAbs ≤ 9223372036854775807) :
    Calls Tryz.prog 44 #[.int .i64 z] w fun e w' => ∃ v, e = .returned v ∧ RZ w' v z ∧ Pu w w' := by
  have hW : Pu w (w.alloc (.cells #[.int .i64 0, .slice none 0 0] 54)) := (Pu.refl w).alloc _
  have kA : Blk (w.alloc (.cells #[.int .i64 0, .slice none 0 0] 54)) w.heap.size 54 #[.int .i64 0, .slice none 0 0] := Blk.new _ _ _
  obtain ⟨N, hN⟩ : ∃ N : Nat, N = z.natAbs := ⟨_, rfl⟩
  have hsig : (decide (z < 0) = true ∧ IntKind.i64.wrap (-z) = (N : Int) ∧ Hid ((-1 : Int) * (N : Int) = z)) ∨ (decide (z < 0) = false ∧ z = (N : Int) ∧ Hid ((1 : Int) * (N : Int) = z)) := by
    rcases Int.lt_or_le z 0 with h | h
    · exact .inl ⟨by simp; omega, (IntWalk.i64_in _ (by omega)).trans (by omega), Lib.hid (by omega)⟩
    · exact .inr ⟨by simp; omega, by omega, Lib.hid (by omega)⟩
  have hN6 : N ≤ 9223372036854775807 := by omega
  have HN := Lib.hid hN
  clear hN hz
  rcases hsig with ⟨d1, hw1, HZ⟩ | ⟨d1, hw1, HZ⟩
  all_goals
    (try subst hw1)
    go_enter Tryz.func44, Tryz.ntmps44
    go_wp2_with fail
    go_loopw [0, 4] (fun nv dv ws => ∃ (k n1 c1 : Nat) (A1 : Option Addr) (ds : List Nat), nv = .int .i64 (k : Int) ∧ dv = .slice A1 n1 c1 ∧ ds.length = n1 ∧ n1 ≤ 20 ∧ k ≤ 9223372036854775807 ∧ Below_ 10 ds ∧ pval 10 ds + 10 ^ n1 * k = N ∧ ws.ownsRow (w.heap.size + 1) 3 1 (.slice A1 n1 c1) n1 (dws ds) ∧ Pu (w.alloc (.cells #[.int .i64 0, .slice none 0 0] 54)) ws) (fun nv _ _ => (intOf nv).toNat)
    case atStart => exact ⟨N, 0, 0, none, [], rfl, rfl, rfl, by omega, by omega, Below_.nil _, by simp [pval], World.ownsRow_nil _ _ _ _, Pu.refl _⟩
    case round =>
      obtain ⟨k, n1, c1, A1, ds, rfl, rfl, hl, hn20, hk, hb, hv, ho, hP⟩ := hrel
      have HV := Lib.hid hv
      clear hv
      have hsz : w.heap.size + 1 ≤ wr.heap.size := by simpa using hP.size
      rcases Nat.eq_zero_or_pos k with e | hk0
      · subst e
        have hv0 : pval 10 ds = N := by have := HV.out; omega
        have hle := own_le ho
        have hmd := fun s hs => rmade_any s A1 n1 c1 ds wr (Sl.of_own ho) (by omega) hle.2 hb (IntAt.of_own ho) hs
        rw [hv0] at hmd
        have Hmd := Lib.hid hmd
        have kA2 := kA.pu hP
        have PW := hW.trans hP
        clear hmd hv0 ho
        go_wp2_with fail
        refine (Hmd.out _ (by omega)).mono ?_
        rintro e w3 ⟨v', rfl, hz', p3⟩
        rw [HZ.out] at hz'
        have hR1 := kA2.pu p3
        obtain ⟨σ', A', n', c', rfl⟩ : ∃ σ A n c, v' = .agg #[.int .i64 σ, .slice A n c] := by
          obtain ⟨A, n, c, l, rfl, -⟩ := hz'
          exact ⟨_, A, n, c, rfl⟩
        have q0 : w3.cell? ⟨w.heap.size, 0, none⟩ = some (.int .i64 0) := hR1.cell 0
        have q1 : w3.cell? ⟨w.heap.size, 1, none⟩ = some (.slice none 0 0) := hR1.cell 1
        have f0 : w3.frozen? ⟨w.heap.size, 0, none⟩ = false := hR1.frozen 0
        have f1 : w3.frozen? ⟨w.heap.size, 1, none⟩ = false := hR1.frozen 1
        obtain ⟨r0, r1, rp, rf⟩ := store_rz hR1 σ' A' n' c'
        have hfin := rf _ _ hz'
        have PP := rp _ (PW.trans p3) (Nat.le_refl _)
        go_wp2
        exact bodyPost_ret (v := .agg #[.int .i64 σ', .slice A' n' c']) (by simp [results, Tryz.results44, go_sem, r0, r1]) rfl ⟨_, rfl, hfin, PP⟩
      · have e1 : (k : Int) % 10 = ((k % 10 : Nat) : Int) := by omega
        have e2 : (k : Int) / 10 = ((k / 10 : Nat) : Int) := by omega
        have hdm := Nat.div_add_mod k 10
        have hr := Nat.mod_lt k (show 10 > 0 by omega)
        have hq : k / 10 < k := by omega
        have hfew : n1 < 19 := ten_few hk0 (by have := HV.out; omega) hN6
        generalize k / 10 = q at *
        generalize k % 10 = r at *
        have Hdm := Lib.hid hdm
        clear hdm
        go_wp2_with (at_builtin; refine wpList_push eiInt rfl (.tmp 11) (.tmp 14) rfl #[.int .i64 (r : Int)] rfl (by simp [Value.oneCell']) rfl rfl ho (by simp [maxLen]; omega) (by omega) hsz ?_)
        intro A3 c3 w3 ho3 hg3
        have hP3 := hP.grown hg3 (fun k hk => by have := (ho.lt k hk).1; simpa using this)
        have ho4 := own_dsnoc ho3
        clear ho hg3 ho3 hsz
        go_wp2
        go_roundw
        case rel => exact ⟨q, n1 + 1, c3, A3, ds ++ [r], rfl, rfl, by simp [hl], by omega, by omega, hb.snoc hr, by
          rw [← HV.out, pval_snoc, hl, Nat.pow_succ, ← Hdm.out, Nat.mul_add, Nat.mul_assoc]
          omega, ho4, hP3⟩
        case measure => simp [intOf]; omega
end
section
set_option linter.unusedVariables false
open Go.RowKit
def DA (w : World) (g : Nat) (o : List Nat) : Prop := Blk w g 3 (dws o).toArray
section
variable {w w' : World} {g : Nat} {o : List Nat}
theorem DA.lt (h : DA w g o) : g < w.heap.size := Blk.lt h
theorem DA.cell (h : DA w g o) {j x : Nat} (hj : o[j]? = some x) : w.cell? ⟨g, j, none⟩ = some (.int .i64 (x : Int)) := by
  rw [Blk.cell h j, List.getElem?_toArray, List.getElem?_map, hj]
  rfl
theorem DA.frozen (h : DA w g o) (j : Nat) : w.frozen? ⟨g, j, none⟩ = false := Blk.frozen h j
theorem DA.set_ (h : DA w g o) (j y : Nat) : DA (w.setCell ⟨g, j, none⟩ (.int .i64 (y : Int))) g (o.set j y) := by
  have := Blk.set_ h j (.int .i64 (y : Int))
  have e : (dws o).toArray.setIfInBounds j (.int .i64 (y : Int)) = (dws (o.set j y)).toArray := by simp [List.map_set]
  rw [e] at this
  exact this
theorem DA.pu (h : DA w g o) (hf : Pu w w') : DA w' g o := Blk.pu h hf
theorem DA.drew (h : DA w g o) : DA w.drew g o := Blk.drew h
theorem DA.sl (h : DA w g o) {n c : Nat} (hn : n = o.length) (hc : n ≤ c) : Sl w 1 (some ⟨g, 0, none⟩) n c (dws o) := by
  refine ⟨by simp; omega, hc, fun _ => ⟨g, 0, rfl, h.lt, fun j u hu => ?_⟩⟩
  rw [List.getElem?_map] at hu
  cases hj : o[j]? with
  | none => rw [hj] at hu; cases hu
  | some x =>
    rw [hj] at hu
    injection hu with hu
    rw [Nat.zero_add, h.cell hj, ← hu]
theorem DA.at_ (h : DA w g o) : IntAt w (some ⟨g, 0, none⟩) := fun b off e => by
  injection e with e
  injection e with e1 _
  subst e1
  exact ⟨_, _, h⟩
end
theorem madeCells_dws (n : Nat) : madeCells (Value.int .i64 0).cells n = Array.replicate n (.int .i64 0) := by
  apply Array.ext
  · simp [madeCells]
  · intro i h1 h2
    simp [madeCells, Value.cells, Nat.mod_one]
theorem run_make_ints (n : Nat) (hn : n ≤ 4000000) (w : World) :
    (Instr.makeSlice 52 (.int .i64 (n : Int)) (.int .i64 (n : Int))).run Tryz.prog w = .ok (.slice (some ⟨w.heap.size, 0, none⟩) n n) (w.alloc (.cells (Array.replicate n (.int .i64 0)) 3)) := by
  obtain ⟨i, hi, hz, hsz, hby⟩ := info_parts eiInt.info
  have hr := run_make (P := Tryz.prog) w 52 3 i _ eiInt.under hi hz .i64 .i64 n n (by omega) (by omega) (by rw [hby]; omega) (by omega)
  simp only [Int.toNat_natCast] at hr
  rw [hsz, Nat.mul_one, madeCells_dws] at hr
  exact hr
theorem DA.made (w : World) (m : Nat) : DA (w.alloc (.cells (Array.replicate m (.int .i64 0)) 3)) w.heap.size (List.replicate m 0) := by
  have e : (dws (List.replicate m 0)).toArray = Array.replicate m (.int .i64 0) := by simp
  unfold DA
  rw [e]
  exact Blk.new w _ _
def Most (K : Nat) (l : List Nat) : Prop := ∀ x ∈ l, x ≤ K
theorem Most.set {K : Nat} {l : List Nat} {j y : Nat} (h : Most K l) (hy : y ≤ K) : Most K (l.set j y) := by
  intro x hx
  rcases List.mem_or_eq_of_mem_set hx with h1 | h1
  · exact h x h1
  · rw [h1]
    exact hy
set_option maxHeartbeats 4000000 in
set_option maxRecDepth 100000 in
theorem rmul_any (v1 v2 : Value) (z1 z2 : Int) (w : World) (h1 : RZ w v1 z1) (h2 : RZ w v2 z2) (b1 : z1.natAbs < 10 ^ 200) (b2 : z2.natAbs < 10 ^ 200) :
    Calls Tryz.prog 79 #[v1, v2] w fun e w' => ∃ v', e = .returned v' ∧ RZ w' v' (z1 * z2) ∧ Pu w w' := by
  obtain ⟨A1, n1, c1, l1, rfl, hs1, hb1, ht1, hv1, hc1, hI1⟩ := h1
  obtain ⟨A2, n2, c2, l2, rfl, hs2, hb2, ht2, hv2, hc2, hI2⟩ := h2
  have hn1 := tidy_len10 ht1 (k := 200) (by rw [hv1]; exact b1)
  have hn2 := tidy_len10 ht2 (k := 200) (by rw [hv2]; exact b2)
  have ll1 := hs1.dlen
  have ll2 := hs2.dlen
  rw [ll1] at hn1
  rw [ll2] at hn2
  obtain ⟨s1, e1⟩ : ∃ s1, s1 = z1.sign := ⟨_, rfl⟩
  obtain ⟨s2, e2⟩ : ∃ s2, s2 = z2.sign := ⟨_, rfl⟩
  rw [← e1, ← e2]
  obtain ⟨W, hWe⟩ : ∃ W, W = ((w.alloc (.cells #[.int .i64 s1, .slice A1 n1 c1] 54)).alloc (.cells #[.int .i64 s2, .slice A2 n2 c2] 54)).alloc (.cells #[.int .i64 0, .slice none 0 0] 54) := ⟨_, rfl⟩
  have hWs : W.heap.size = w.heap.size + 3 := by rw [hWe]; simp
  have hW : Pu w W := by
    rw [hWe]
    exact (((Pu.refl w).alloc _).alloc _).alloc _
  have k1 : Blk W w.heap.size 54 #[.int .i64 s1, .slice A1 n1 c1] := by rw [hWe]; exact ((Blk.new w _ _).alloc _).alloc _
  have k2 : Blk W (w.heap.size + 1) 54 #[.int .i64 s2, .slice A2 n2 c2] := by rw [hWe]; exact (Blk.at_new _ _ _ (by simp)).alloc _
  have k3 : Blk W (w.heap.size + 2) 54 #[.int .i64 0, .slice none 0 0] := by rw [hWe]; exact Blk.at_new _ _ _ (by simp)
  have hS1 := hs1.pu hW
  have hS2 := hs2.pu hW
  have hmk := fun W => run_make_ints (n1 + n2 + 1) (by omega) W
  have hcast : ((n1 + n2 + 1 : Nat) : Int) = (n1 : Int) + (n2 : Int) + 1 := by omega
  rw [hcast] at hmk
  have Hmk := Lib.hid hmk
  have hw1 : IntKind.i64.wrap ((n1 : Int) + (n2 : Int)) = (n1 : Int) + (n2 : Int) := IntWalk.i64_in _ (by omega)
  have hw2 : IntKind.i64.wrap ((n1 : Int) + (n2 : Int) + 1) = (n1 : Int) + (n2 : Int) + 1 := IntWalk.i64_in _ (by omega)
  have hA0 := DA.made W (n1 + n2 + 1)
  have hP0 : Pu W (W.alloc (.cells (Array.replicate (n1 + n2 + 1) (.int .i64 0)) 3)) := (Pu.refl W).alloc _
  rw [hWs] at hA0
  rw [hWe] at hA0 hP0
  have HWe := Lib.hid hWe
  have HE := Lib.hid (And.intro (And.intro e1 e2) (And.intro hv1 hv2))
  clear hmk hWe hcast hs1 hs2 e1 e2 hv1 hv2 hI1 hI2
  go_enter Tryz.func79, Tryz.ntmps79
  go_wp2_with (simp only [Hmk.out])
  go_loopw [6] (fun iv ws => ∃ (i : Nat) (os : List Nat), i ≤ n1 ∧ iv = .int .i64 i ∧ os.length = n1 + n2 + 1 ∧ Most (81 * i) os ∧ pval 10 os = pval 10 (l1.take i) * pval 10 l2 ∧ DA ws (w.heap.size + 3) os ∧ Pu W ws) (fun iv _ => n1 - (intOf iv).toNat)
  case atStart => exact ⟨0, List.replicate (n1 + n2 + 1) 0, Nat.zero_le _, rfl, by simp, fun x hx => by rw [List.eq_of_mem_replicate hx]; omega, by simp [pval, pval_zeros], hA0, by rw [HWe.out]; exact hP0⟩
  case round =>
    obtain ⟨i, os, hi, rfl, hol, hmo, hv, hA, hP⟩ := hrel
    have HV := Lib.hid hv
    clear hv hA0 hP0
    have j10 : wr.cell? ⟨w.heap.size, 1, none⟩ = some (.slice A1 n1 c1) := (k1.pu hP).cell 1
    by_cases hlt : i < n1
    · obtain ⟨x, hx⟩ : ∃ x, l1[i]? = some x := ⟨_, List.getElem?_eq_getElem (by omega)⟩
      have hxb := hb1 x (List.mem_of_getElem? hx)
      have Hx := Lib.hid hx
      clear hx
      go_wp2_with fail
      go_loopw [7] (fun kv ws => ∃ (k : Nat) (os' : List Nat), k ≤ n2 ∧ kv = .int .i64 k ∧ os'.length = n1 + n2 + 1 ∧ (∀ j y, os'[j]? = some y → y ≤ 81 * i + (if j < i + k then 81 else 0)) ∧ pval 10 os' = pval 10 os + 10 ^ i * (x * pval 10 (l2.take k)) ∧ DA ws (w.heap.size + 3) os' ∧ Pu W ws) (fun kv _ => n2 - (intOf kv).toNat)
      case atStart => exact ⟨0, os, Nat.zero_le _, rfl, hol, fun j y hj => by have := hmo y (List.mem_of_getElem? hj); omega, by simp [pval], hA, hP⟩
      case round =>
        clear hA hP j10
        obtain ⟨k, os', hk, rfl, hol', hmo', hv', hA, hP⟩ := hrel
        have HV' := Lib.hid hv'
        have HM := Lib.hid hmo'
        clear hv' hmo'
        have j20 : wr.cell? ⟨w.heap.size + 1, 1, none⟩ = some (.slice A2 n2 c2) := (k2.pu hP).cell 1
        have j10 : wr.cell? ⟨w.heap.size, 1, none⟩ = some (.slice A1 n1 c1) := (k1.pu hP).cell 1
        by_cases hlk : k < n2
        · obtain ⟨y, hy⟩ : ∃ y, l2[k]? = some y := ⟨_, List.getElem?_eq_getElem (by omega)⟩
          have hyb := hb2 y (List.mem_of_getElem? hy)
          obtain ⟨q1, o1, rfl, hq1, cx⟩ := (hS1.pu hP).dat Hx.out
          obtain ⟨q2, o2, rfl, hq2, cy⟩ := (hS2.pu hP).dat hy
          have Hy := Lib.hid hy
          clear hy
          obtain ⟨old, ho⟩ : ∃ old, os'[i + k]? = some old := ⟨_, List.getElem?_eq_getElem (by omega)⟩
          have hoB := HM.out (i + k) old ho
          rw [if_neg (by omega)] at hoB
          have hg0 : wr.cell? ⟨w.heap.size + 3, i + k, none⟩ = some (.int .i64 (old : Int)) := hA.cell ho
          have hf0 := hA.frozen (i + k)
          have Ho := Lib.hid ho
          have hxy : x * y ≤ 81 := by
            have := Nat.mul_le_mul (show x ≤ 9 by omega) (show y ≤ 9 by omega)
            omega
          obtain ⟨p, hp⟩ : ∃ p, p = x * y := ⟨_, rfl⟩
          have hpi : (x : Int) * (y : Int) = (p : Int) := by rw [hp, Int.natCast_mul]
          rw [← hp] at hxy
          have Hp := Lib.hid hp
          have HA := Lib.hid hA
          have hw3 : IntKind.i64.wrap ((i : Int) + (k : Int)) = (i : Int) + (k : Int) := IntWalk.i64_in _ (by omega)
          have hw4 : IntKind.i64.wrap (p : Int) = (p : Int) := IntWalk.i64_in _ (by omega)
          have hw5 : IntKind.i64.wrap ((old : Int) + (p : Int)) = (old : Int) + (p : Int) := IntWalk.i64_in _ (by omega)
          have hi0 : (0 : Int) ≤ (i : Int) := by omega
          have hi1 : (i : Int) < (n1 : Int) := by omega
          have hk0 : (0 : Int) ≤ (k : Int) := by omega
          have hk1 : (k : Int) < (n2 : Int) := by omega
          have hik0 : (0 : Int) ≤ (i : Int) + (k : Int) := by omega
          have hik1 : (i : Int) + (k : Int) < (n1 : Int) + (n2 : Int) + 1 := by omega
          have hikn : ((i : Int) + (k : Int)).toNat = i + k := by omega
          clear hp ho hA
          go_wp2_with fail
          go_region
          have hA2 := (HA.out.set_ (i + k) (old + p)).drew
          have hP2 : Pu W ((wr.setCell ⟨w.heap.size + 3, i + k, none⟩ (.int .i64 ((old + p : Nat) : Int))).drew) := (hP.setCell (by show W.heap.size ≤ w.heap.size + 3; omega) _).drew
          go_wp2
          go_roundw
          case rel => exact ⟨k + 1, os'.set (i + k) (old + p), by omega, by go_num, by simp [hol'], fun j u hj => by
            rw [List.getElem?_set] at hj
            split at hj
            · rename_i e
              subst e
              split at hj
              · injection hj with hj
                rw [if_pos (by omega)]
                omega
              · cases hj
            · have := HM.out j u hj
              split at this
              · rw [if_pos (by omega)]
                omega
              · split <;> omega, by
            have hs := pval_set (b := 10) (old + p) Ho.out
            rw [Nat.mul_add] at hs
            have h5 : pval 10 (os'.set (i + k) (old + p)) = pval 10 os' + 10 ^ (i + k) * p := by omega
            rw [h5, HV'.out, pval_take_succ Hy.out, Nat.mul_add x, Nat.mul_add (10 ^ i), Hp.out, Nat.pow_add, Nat.mul_assoc (10 ^ i) (10 ^ k), Nat.mul_left_comm (10 ^ k) x y, Nat.add_assoc], hA2, hP2⟩
          case measure => simp [intOf]; omega
        · obtain rfl : k = n2 := by omega
          have hw6 : IntKind.i64.wrap ((i : Int) + 1) = (i : Int) + 1 := IntWalk.i64_in _ (by omega)
          go_wp2
          go_roundw
          case rel => exact ⟨i + 1, os', by omega, by go_num, hol', fun u hu => by
            obtain ⟨j, hj⟩ := List.mem_iff_getElem?.1 hu
            have := HM.out j u hj
            split at this <;> omega, by
            rw [HV'.out, List.take_of_length_le (l := l2) (by omega), HV.out, pval_take_succ Hx.out, Nat.add_mul, Nat.mul_assoc], hA, hP⟩
          case measure => simp [intOf]; omega
    · obtain rfl : i = n1 := by omega
      have hv1 : pval 10 os = pval 10 l1 * pval 10 l2 := by rw [HV.out, List.take_of_length_le (by omega)]
      have Hv1 := Lib.hid hv1
      have hK : 81 * i ≤ 20000 := by omega
      have hmo2 : Most 20000 os := fun x hx => by have := hmo x hx; omega
      clear hv1 hmo
      go_wp2_with fail
      go_loopw [8] (fun jv ws => ∃ (j : Nat) (os' : List Nat), j ≤ i + n2 ∧ jv = .int .i64 j ∧ os'.length = i + n2 + 1 ∧ (∀ m y, os'[m]? = some y → (m < j → y < 10) ∧ (j < m → y ≤ 20000) ∧ y ≤ 40000) ∧ pval 10 os' = pval 10 l1 * pval 10 l2 ∧ DA ws (w.heap.size + 3) os' ∧ Pu W ws) (fun jv _ => i + n2 - (intOf jv).toNat)
      case atStart => exact ⟨0, os, Nat.zero_le _, rfl, hol, fun m y hm => by have := hmo2 y (List.mem_of_getElem? hm); omega, Hv1.out, hA, hP⟩
      case round =>
        clear hA hP j10 hmo2
        obtain ⟨j, os', hj, rfl, hol', hmo', hv', hA, hP⟩ := hrel
        have HV' := Lib.hid hv'
        have HM := Lib.hid hmo'
        clear hv' hmo'
        have hwj : IntKind.i64.wrap ((j : Int) + 1) = (j : Int) + 1 := IntWalk.i64_in _ (by omega)
        by_cases hjl : j < i + n2
        · have d1 : decide ((j : Int) + 1 < (i : Int) + (n2 : Int) + 1) = true := by simp; omega
          obtain ⟨x, hx⟩ : ∃ x, os'[j]? = some x := ⟨_, List.getElem?_eq_getElem (by omega)⟩
          obtain ⟨y, hy⟩ : ∃ y, os'[j + 1]? = some y := ⟨_, List.getElem?_eq_getElem (by omega)⟩
          have hxB := (HM.out j x hx).2.2
          have hyB := (HM.out (j + 1) y hy).2.1 (by omega)
          have hcx : wr.cell? ⟨w.heap.size + 3, j, none⟩ = some (.int .i64 (x : Int)) := hA.cell hx
          have hcy : wr.cell? ⟨w.heap.size + 3, j + 1, none⟩ = some (.int .i64 (y : Int)) := hA.cell hy
          have hfx := hA.frozen j
          have hfy := hA.frozen (j + 1)
          obtain ⟨q, hq⟩ : ∃ q, q = x / 10 := ⟨_, rfl⟩
          obtain ⟨r, hr⟩ : ∃ r, r = x % 10 := ⟨_, rfl⟩
          have hqi : (x : Int) / 10 = (q : Int) := by omega
          have hri : (x : Int) % 10 = (r : Int) := by omega
          have hw7 : IntKind.i64.wrap (q : Int) = (q : Int) := IntWalk.i64_in _ (by omega)
          have hw8 : IntKind.i64.wrap ((y : Int) + (q : Int)) = (y : Int) + (q : Int) := IntWalk.i64_in _ (by omega)
          have hw9 : IntKind.i64.wrap ((x : Int) / 10) = (x : Int) / 10 := IntWalk.i64_in _ (by omega)
          have ht1 : (x : Int).tdiv 10 = (x : Int) / 10 := Int.tdiv_eq_ediv_of_nonneg (by omega)
          have ht2 : (x : Int).tmod 10 = (x : Int) % 10 := Int.tmod_eq_emod_of_nonneg (by omega)
          have hj0 : (0 : Int) ≤ (j : Int) := by omega
          have hj1 : (j : Int) < (i : Int) + (n2 : Int) + 1 := by omega
          have hj2 : (0 : Int) ≤ (j : Int) + 1 := by omega
          have hjn : ((j : Int) + 1).toNat = j + 1 := by omega
          have Hx := Lib.hid hx
          have Hy := Lib.hid hy
          have HA := Lib.hid hA
          have Hqr := Lib.hid (And.intro hq hr)
          clear hx hy hA hq hr
          go_wp2_with fail
          go_region
          have hA2 := (HA.out.set_ (j + 1) (y + q)).drew
          have hP2 : Pu W ((wr.setCell ⟨w.heap.size + 3, j + 1, none⟩ (.int .i64 ((y + q : Nat) : Int))).drew) := (hP.setCell (by show W.heap.size ≤ w.heap.size + 3; omega) _).drew
          have hxx : (os'.set (j + 1) (y + q))[j]? = some x := by
            rw [List.getElem?_set, if_neg (by omega)]
            exact Hx.out
          have hcx2 : ((wr.setCell ⟨w.heap.size + 3, j + 1, none⟩ (.int .i64 ((y : Int) + (q : Int)))).drew).cell? ⟨w.heap.size + 3, j, none⟩ = some (.int .i64 (x : Int)) := hA2.cell hxx
          have hfx2 : ((wr.setCell ⟨w.heap.size + 3, j + 1, none⟩ (.int .i64 ((y : Int) + (q : Int)))).drew).frozen? ⟨w.heap.size + 3, j, none⟩ = false := hA2.frozen j
          have hA3 := hA2.set_ j r
          have hP3 : Pu W ((((wr.setCell ⟨w.heap.size + 3, j + 1, none⟩ (.int .i64 ((y + q : Nat) : Int))).drew).setCell ⟨w.heap.size + 3, j, none⟩ (.int .i64 (r : Int)))) := hP2.setCell (by show W.heap.size ≤ w.heap.size + 3; omega) _
          have hA4 := ((HA.out.set_ (j + 1) (y + q)).set_ j r).drew
          have hP4 : Pu W (((wr.setCell ⟨w.heap.size + 3, j + 1, none⟩ (.int .i64 ((y + q : Nat) : Int))).setCell ⟨w.heap.size + 3, j, none⟩ (.int .i64 (r : Int))).drew) := ((hP.setCell (by show W.heap.size ≤ w.heap.size + 3; omega) _).setCell (by show W.heap.size ≤ w.heap.size + 3; omega) _).drew
          have HXX := Lib.hid hxx
          have hx10 : x = 10 * q + r ∧ r < 10 ∧ q ≤ 4000 := by
            have := Hqr.out
            omega
          have HX10 := Lib.hid hx10
          clear hA2 hP2 hA3 hP3 hxx hx10
          go_wp2
          go_roundw
          case rel => exact ⟨j + 1, (os'.set (j + 1) (y + q)).set j r, by omega, by go_num, by simp [hol'], fun m u hm => by
            have h10 := HX10.out
            rw [List.getElem?_set] at hm
            split at hm
            · rename_i e
              subst e
              split at hm
              · injection hm with hm
                omega
              · cases hm
            · rw [List.getElem?_set] at hm
              split at hm
              · rename_i e
                subst e
                split at hm
                · injection hm with hm
                  omega
                · cases hm
              · have := HM.out m u hm
                omega, by
            have s1 := pval_set (b := 10) (y + q) Hy.out
            have s2 := pval_set (b := 10) r HXX.out
            have h10 := HX10.out
            rw [h10.1, Nat.mul_add, ← Nat.mul_assoc] at s2
            rw [Nat.pow_succ, Nat.mul_add] at s1
            rw [← HV'.out]
            omega, hA4, hP4⟩
          case measure => simp [intOf]; omega
        · obtain rfl : j = i + n2 := by omega
          have d1 : decide ((i : Int) + (n2 : Int) + 1 < (i : Int) + (n2 : Int) + 1) = false := by simp
          have hlast : ∀ y, os'[i + n2]? = some y → y = 0 := by
            intro y hy
            have h3 := pval_cut 10 os' (i + n2) (by omega)
            have h4 : os'.drop (i + n2) = [y] := by
              have := List.drop_eq_getElem_cons (l := os') (i := i + n2) (by omega)
              rw [this, List.drop_eq_nil_of_le (by omega)]
              rw [List.getElem?_eq_getElem (by omega)] at hy
              injection hy with hy
              rw [hy]
            rw [h4, HV'.out] at h3
            simp only [pval, Nat.mul_zero, Nat.add_zero] at h3
            have h5 := pval_lt hb1
            have h6 := pval_lt hb2
            rw [ll1] at h5
            rw [ll2] at h6
            have h7 : pval 10 l1 * pval 10 l2 < 10 ^ (i + n2) := by
              rw [Nat.pow_add]
              exact Nat.mul_lt_mul_of_lt_of_le h5 (Nat.le_of_lt h6) (Nat.pow_pos (by omega))
            rcases Nat.eq_zero_or_pos y with h | h
            · exact h
            · have h8 : 10 ^ (i + n2) * 1 ≤ 10 ^ (i + n2) * y := Nat.mul_le_mul_left _ h
              omega
          have hbo : Below_ 10 os' := by
            intro y hy
            obtain ⟨m, hm⟩ := List.mem_iff_getElem?.1 hy
            have hml := (List.getElem?_eq_some_iff.1 hm).1
            rcases Nat.lt_or_ge m (i + n2) with h | h
            · exact (HM.out m y hm).1 h
            · have : m = i + n2 := by omega
              subst this
              rw [hlast y hm]
              omega
          have hSo := hA.sl (n := i + n2 + 1) (c := i + n2 + 1) hol'.symm (Nat.le_refl _)
          have hsm : ∃ σ, σ = s1 * s2 := ⟨_, rfl⟩
          obtain ⟨σ, hσ⟩ := hsm
          have hz : (σ = 1 ∨ σ = -1 ∨ pval 10 os' = 0) ∧ σ * ((pval 10 os' : Nat) : Int) = z1 * z2 := by
            rw [HV'.out, HE.out.2.1, HE.out.2.2, hσ, HE.out.1.1, HE.out.1.2]
            refine ⟨?_, ?_⟩
            · rcases Decidable.em (z1 = 0) with e | e
              · refine .inr (.inr ?_)
                rw [e]
                simp
              · rcases Decidable.em (z2 = 0) with e' | e'
                · refine .inr (.inr ?_)
                  rw [e']
                  simp
                · rcases sign_one z1 e with h | h <;> rcases sign_one z2 e' with h' | h' <;> rw [h, h'] <;> simp
            · rw [← Int.sign_mul, ← Int.natAbs_mul]
              exact Int.sign_mul_natAbs _
          have hσ1 : -1 ≤ σ ∧ σ ≤ 1 := by
            rw [hσ, HE.out.1.1, HE.out.1.2, ← Int.sign_mul]
            rcases Int.lt_trichotomy (z1 * z2) 0 with h | h | h
            · rw [Int.sign_eq_neg_one_of_neg h]; omega
            · rw [h]; decide
            · rw [Int.sign_eq_one_of_pos h]; omega
          have hwσ : IntKind.i64.wrap (s1 * s2) = σ := by rw [← hσ]; exact IntWalk.i64_in _ (by omega)
          have hmd := rmade_any σ _ _ _ os' wr hSo (by omega) (by simp [maxLen]; omega) hbo hA.at_ hz.1
          rw [hz.2] at hmd
          have Hmd := Lib.hid hmd
          have k3' := k3.pu hP
          have hP' := hW.trans hP
          have j10 : wr.cell? ⟨w.heap.size, 0, none⟩ = some (.int .i64 s1) := (k1.pu hP).cell 0
          have j20 : wr.cell? ⟨w.heap.size + 1, 0, none⟩ = some (.int .i64 s2) := (k2.pu hP).cell 0
          clear hmd hSo hbo hz hlast hA hP hσ hσ1
          go_wp2_with fail
          refine Hmd.out.mono ?_
          rintro e w2 ⟨v', rfl, hz', p2⟩
          have hR := k3'.pu p2
          obtain ⟨σ5, A5, n5, c5, rfl⟩ : ∃ σ A n c, v' = .agg #[.int .i64 σ, .slice A n c] := by
            obtain ⟨A, n, c, l, rfl, -⟩ := hz'
            exact ⟨_, A, n, c, rfl⟩
          have q0 : w2.cell? ⟨w.heap.size + 2, 0, none⟩ = some (.int .i64 0) := hR.cell 0
          have q1 : w2.cell? ⟨w.heap.size + 2, 1, none⟩ = some (.slice none 0 0) := hR.cell 1
          have f0 : w2.frozen? ⟨w.heap.size + 2, 0, none⟩ = false := hR.frozen 0
          have f1 : w2.frozen? ⟨w.heap.size + 2, 1, none⟩ = false := hR.frozen 1
          obtain ⟨r0, r1, rp, rf⟩ := store_rz hR σ5 A5 n5 c5
          have hfin := rf _ _ hz'
          have PP := rp _ (hP'.trans p2) (by omega)
          go_wp2
          exact bodyPost_ret (v := .agg #[.int .i64 σ5, .slice A5 n5 c5]) (by simp [results, Tryz.results79, go_sem, r0, r1]) rfl ⟨_, rfl, hfin, PP⟩
end
end Go.Proofs.YtckfnbckoclhpaaGreatDoor
