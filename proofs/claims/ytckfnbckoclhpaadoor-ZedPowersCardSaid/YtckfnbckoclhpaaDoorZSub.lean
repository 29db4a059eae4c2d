/- zed: plus. zed: minus. -/
import Derived.Test.YtckfnbckoclhpaaDoorZCarry
set_option linter.unusedVariables false
namespace Go.Proofs.YtckfnbckoclhpaaDoor
open Go.RowKit
/- zed: plus. -/
theorem fill_next {os : List Nat} {j n y : Nat} (h : os.length = j) (hj : j < n) : (os ++ List.replicate (n - j) 0).set j y = (os ++ [y]) ++ List.replicate (n - (j + 1)) 0 := by
  rw [List.set_append_right _ _ (by omega), h, Nat.sub_self, show n - j = (n - (j + 1)) + 1 by omega, List.replicate_succ]
  simp
theorem take_next {l : List Nat} {j x : Nat} (h : l[j]? = some x) : pval 4294967296 (l.take (j + 1)) = pval 4294967296 (l.take j) + 4294967296 ^ j * x := by
  have hj := (List.getElem?_eq_some_iff.1 h).1
  rw [List.take_add_one, h]
  show pval 4294967296 (l.take j ++ [x]) = _
  rw [pval_snoc, List.length_take, Nat.min_eq_left (by omega)]
theorem carry_step {p s c t r q v : Nat} (h : s + p * c = t) (e : 4294967296 * q + r = v + c) : s + p * r + p * 4294967296 * q = t + p * v := by
  have h1 : p * (4294967296 * q + r) = p * (v + c) := by rw [e]
  rw [Nat.mul_add, Nat.mul_add, ← Nat.mul_assoc] at h1
  omega
theorem add_step {l k os : List Nat} {j x y cy q r : Nat} (ho : os.length = j) (hx : l[j]? = some x) (hy : k[j]? = some y) (hv : pval 4294967296 os + 4294967296 ^ j * cy = pval 4294967296 (l.take j) + pval 4294967296 (k.take j)) (e : 4294967296 * q + r = x + y + cy) :
    pval 4294967296 (os ++ [r]) + 4294967296 ^ (j + 1) * q = pval 4294967296 (l.take (j + 1)) + pval 4294967296 (k.take (j + 1)) := by
  rw [pval_snoc, ho, Nat.pow_succ, take_next hx, take_next hy]
  have := carry_step hv e
  rw [Nat.mul_add] at this
  omega
theorem add_step0 {l k os : List Nat} {j x cy q r : Nat} (ho : os.length = j) (hx : l[j]? = some x) (hy : k.length ≤ j) (hv : pval 4294967296 os + 4294967296 ^ j * cy = pval 4294967296 (l.take j) + pval 4294967296 (k.take j)) (e : 4294967296 * q + r = x + 0 + cy) :
    pval 4294967296 (os ++ [r]) + 4294967296 ^ (j + 1) * q = pval 4294967296 (l.take (j + 1)) + pval 4294967296 (k.take (j + 1)) := by
  rw [pval_snoc, ho, Nat.pow_succ, take_next hx, List.take_of_length_le (show k.length ≤ j + 1 by omega)]
  rw [List.take_of_length_le hy] at hv
  have := carry_step hv (v := x) (by omega)
  omega

set_option maxHeartbeats 2000000 in
set_option maxRecDepth 100000 in
theorem plus_any (A C : Option Addr) (n c m d : Nat) (l k : List Nat) (w : World) (h : Sl w 1 A n c (wds l)) (g : Sl w 1 C m d (wds k)) (hn : n ≤ 100000) (hm : m ≤ 100000) (hl : Below_ 4294967296 l) (hk : Below_ 4294967296 k) :
    Calls Tryd.prog 69 #[.slice A n c, .slice C m d] w fun e w' => ∃ A' n' c' o, e = .returned (.slice A' n' c') ∧ n' ≤ n + m + 1 ∧ c' ≤ maxLen ∧ Sl w' 1 A' n' c' (wds o) ∧ Below_ 4294967296 o ∧ pval 4294967296 o = pval 4294967296 l + pval 4294967296 k ∧ Pu w w' := by
  have ll := h.wlen
  have lk := g.wlen
  rcases Nat.lt_or_ge n m with hnm | hnm
  · have d1 : decide ((n : Int) < (m : Int)) = true := by simp; omega
    have hmk := fun W => run_make_words m (m + 1) (by omega) (by omega) W
    have Hmk := Lib.hid hmk
    clear hmk
    have hw1 : IntKind.i64.wrap ((m : Int) + 1) = (m : Int) + 1 := IntWalk.i64_in _ (by omega)
    have hcast : ((m + 1 : Nat) : Int) = (m : Int) + 1 := by omega
    rw [hcast] at Hmk
    have hW : Pu w (w.alloc (.cells (Array.replicate (m + 1) (.int .u32 0)) 67)) := (Pu.refl w).alloc _
    have hA := WA.made w (m + 1)
    go_enter Tryd.func69, Tryd.ntmps69
    go_wp2_with (simp only [Hmk.out])
    go_loopw [6, 24] (fun cv v ws => ∃ (j cy : Nat) (os : List Nat), j ≤ m ∧ v = .int .i64 j ∧ cv = .int .u32 (cy : Int) ∧ cy ≤ 1 ∧ os.length = j ∧ Below_ 4294967296 os ∧ pval 4294967296 os + 4294967296 ^ j * cy = pval 4294967296 (k.take j) + pval 4294967296 (l.take j) ∧ WA ws w.heap.size (os ++ List.replicate (m + 1 - j) 0) ∧ Pu w ws) (fun _ v _ => m - (intOf v).toNat)
    case atStart => exact ⟨0, 0, [], Nat.zero_le _, rfl, rfl, by omega, rfl, Below_.nil _, by simp [pval], by simpa using hA, hW⟩
    case round =>
      obtain ⟨j, cy, os, hj, rfl, rfl, hcy, hol, hob, hv, hA, hP⟩ := hrel
      have HV := Lib.hid hv
      clear hv
      have hA0 := hA
      by_cases hlt : j < m
      · obtain ⟨x, hx⟩ : ∃ x, k[j]? = some x := ⟨_, List.getElem?_eq_getElem (by omega)⟩
        have hxb := hk x (List.mem_of_getElem? hx)
        obtain ⟨b1, o1, ea, hb1, c1'⟩ := (g.pu hP).wat hx
        have Hx := Lib.hid hx
        clear hx
        have hg0 : wr.cell? ⟨w.heap.size, j, none⟩ = some (.int .u32 0) := by
          have := hA.cell (j := j) (x := 0) (by
            rw [List.getElem?_append_right (by omega), hol, Nat.sub_self, List.getElem?_replicate, if_pos (by omega)])
          simpa using this
        have hf0 := hA.frozen j
        have stepA : ∀ y, WA (wr.setCell ⟨w.heap.size, j, none⟩ (.int .u32 (y : Nat))) w.heap.size ((os ++ [y]) ++ List.replicate (m + 1 - (j + 1)) 0) := fun y => by
          have h2 := hA0.set_ j y
          rwa [fill_next hol (by omega)] at h2
        have StepA := Lib.hid stepA
        clear stepA hA hA0
        by_cases hjm : j < n
        · obtain ⟨y, hy⟩ : ∃ y, l[j]? = some y := ⟨_, List.getElem?_eq_getElem (by omega)⟩
          have hyb := hl y (List.mem_of_getElem? hy)
          obtain ⟨b2, o2, eb, hb2, c2'⟩ := (h.pu hP).wat hy
          have Hy := Lib.hid hy
          clear hy
          subst ea eb
          go_wp2_with fail
          refine (add32_any x y cy _ hxb hyb hcy).mono ?_
          rintro e w1 ⟨rfl, rfl⟩
          have hdm := Nat.div_add_mod (x + y + cy) 4294967296
          have ho : (x + y + cy) % 4294967296 < 4294967296 := Nat.mod_lt _ (by omega)
          have hc2 : (x + y + cy) / 4294967296 ≤ 1 := by omega
          generalize (x + y + cy) / 4294967296 = q at *
          generalize (x + y + cy) % 4294967296 = r at *
          go_wp2
          go_roundw
          case rel => exact ⟨j + 1, q, os ++ [r], by omega, by go_num, rfl, hc2, by simp [hol], hob.snoc ho, add_step hol Hx.out Hy.out HV.out hdm, StepA.out r, hP.setCell (Nat.le_refl _) _⟩
          case measure => simp [intOf]; omega
        · subst ea
          go_wp2_with fail
          refine (add32_any x 0 cy _ hxb (by omega) hcy).mono ?_
          rintro e w1 ⟨rfl, rfl⟩
          have hdm := Nat.div_add_mod (x + 0 + cy) 4294967296
          have ho : (x + 0 + cy) % 4294967296 < 4294967296 := Nat.mod_lt _ (by omega)
          have hc2 : (x + 0 + cy) / 4294967296 ≤ 1 := by omega
          generalize (x + 0 + cy) / 4294967296 = q at *
          generalize (x + 0 + cy) % 4294967296 = r at *
          go_wp2
          go_roundw
          case rel => exact ⟨j + 1, q, os ++ [r], by omega, by go_num, rfl, hc2, by simp [hol], hob.snoc ho, add_step0 hol Hx.out (by omega) HV.out hdm, StepA.out r, hP.setCell (Nat.le_refl _) _⟩
          case measure => simp [intOf]; omega
      · obtain rfl : j = m := by omega
        have hown : wr.ownsRow w.heap.size 67 1 (.slice (some ⟨w.heap.size, 0, none⟩) j (j + 1)) j (wds os) := by
          refine ⟨by simp [hol], .inr ⟨w.heap.size, j + 1, _, rfl, Nat.le_refl _, hA, by omega, by simp [maxLen]; omega, by simp [hol], ?_⟩⟩
          simp [hol]
        have hsz := hP.size
        go_wp2_with (at_builtin; refine wpList_push eiU32 rfl (.tmp 49) (.tmp 51) rfl #[.int .u32 (cy : Int)] rfl (by simp [Value.oneCell']) rfl rfl hown (by simp [maxLen]; omega) (by omega) hsz ?_)
        intro A3 c3 w3 ho3 hg3
        have hP3 := pu_push hP hown (Nat.le_refl _) hg3
        have hle3 := own_le ho3
        have hS3 : Sl w3 1 A3 (j + 1) c3 (wds (os ++ [cy])) := by
          have := Sl.of_own ho3
          simpa using this
        have hv3 : pval 4294967296 (os ++ [cy]) = pval 4294967296 k + pval 4294967296 l := by
          have := HV.out
          rw [List.take_of_length_le (by omega), List.take_of_length_le (by omega)] at this
          rw [pval_snoc, hol, this]
        have Hv3 := Lib.hid hv3
        clear hv3
        go_wp2
        go_ret
        exact ⟨A3, j + 1, c3, os ++ [cy], rfl, by omega, hle3.2, hS3, hob.snoc (by omega), by rw [Hv3.out, Nat.add_comm], hP3⟩
  · have d1 : decide ((n : Int) < (m : Int)) = false := by simp; omega
    have hmk := fun W => run_make_words n (n + 1) (by omega) (by omega) W
    have Hmk := Lib.hid hmk
    clear hmk
    have hw1 : IntKind.i64.wrap ((n : Int) + 1) = (n : Int) + 1 := IntWalk.i64_in _ (by omega)
    have hcast : ((n + 1 : Nat) : Int) = (n : Int) + 1 := by omega
    rw [hcast] at Hmk
    have hW : Pu w (w.alloc (.cells (Array.replicate (n + 1) (.int .u32 0)) 67)) := (Pu.refl w).alloc _
    have hA := WA.made w (n + 1)
    go_enter Tryd.func69, Tryd.ntmps69
    go_wp2_with (simp only [Hmk.out])
    go_loopw [6, 24] (fun cv v ws => ∃ (j cy : Nat) (os : List Nat), j ≤ n ∧ v = .int .i64 j ∧ cv = .int .u32 (cy : Int) ∧ cy ≤ 1 ∧ os.length = j ∧ Below_ 4294967296 os ∧ pval 4294967296 os + 4294967296 ^ j * cy = pval 4294967296 (l.take j) + pval 4294967296 (k.take j) ∧ WA ws w.heap.size (os ++ List.replicate (n + 1 - j) 0) ∧ Pu w ws) (fun _ v _ => n - (intOf v).toNat)
    case atStart => exact ⟨0, 0, [], Nat.zero_le _, rfl, rfl, by omega, rfl, Below_.nil _, by simp [pval], by simpa using hA, hW⟩
    case round =>
      obtain ⟨j, cy, os, hj, rfl, rfl, hcy, hol, hob, hv, hA, hP⟩ := hrel
      have HV := Lib.hid hv
      clear hv
      have hA0 := hA
      by_cases hlt : j < n
      · obtain ⟨x, hx⟩ : ∃ x, l[j]? = some x := ⟨_, List.getElem?_eq_getElem (by omega)⟩
        have hxb := hl x (List.mem_of_getElem? hx)
        obtain ⟨b1, o1, ea, hb1, c1'⟩ := (h.pu hP).wat hx
        have Hx := Lib.hid hx
        clear hx
        have hg0 : wr.cell? ⟨w.heap.size, j, none⟩ = some (.int .u32 0) := by
          have := hA.cell (j := j) (x := 0) (by
            rw [List.getElem?_append_right (by omega), hol, Nat.sub_self, List.getElem?_replicate, if_pos (by omega)])
          simpa using this
        have hf0 := hA.frozen j
        have stepA : ∀ y, WA (wr.setCell ⟨w.heap.size, j, none⟩ (.int .u32 (y : Nat))) w.heap.size ((os ++ [y]) ++ List.replicate (n + 1 - (j + 1)) 0) := fun y => by
          have h2 := hA0.set_ j y
          rwa [fill_next hol (by omega)] at h2
        have StepA := Lib.hid stepA
        clear stepA hA hA0
        by_cases hjm : j < m
        · obtain ⟨y, hy⟩ : ∃ y, k[j]? = some y := ⟨_, List.getElem?_eq_getElem (by omega)⟩
          have hyb := hk y (List.mem_of_getElem? hy)
          obtain ⟨b2, o2, eb, hb2, c2'⟩ := (g.pu hP).wat hy
          have Hy := Lib.hid hy
          clear hy
          subst ea eb
          go_wp2_with fail
          refine (add32_any x y cy _ hxb hyb hcy).mono ?_
          rintro e w1 ⟨rfl, rfl⟩
          have hdm := Nat.div_add_mod (x + y + cy) 4294967296
          have ho : (x + y + cy) % 4294967296 < 4294967296 := Nat.mod_lt _ (by omega)
          have hc2 : (x + y + cy) / 4294967296 ≤ 1 := by omega
          generalize (x + y + cy) / 4294967296 = q at *
          generalize (x + y + cy) % 4294967296 = r at *
          go_wp2
          go_roundw
          case rel => exact ⟨j + 1, q, os ++ [r], by omega, by go_num, rfl, hc2, by simp [hol], hob.snoc ho, add_step hol Hx.out Hy.out HV.out hdm, StepA.out r, hP.setCell (Nat.le_refl _) _⟩
          case measure => simp [intOf]; omega
        · subst ea
          go_wp2_with fail
          refine (add32_any x 0 cy _ hxb (by omega) hcy).mono ?_
          rintro e w1 ⟨rfl, rfl⟩
          have hdm := Nat.div_add_mod (x + 0 + cy) 4294967296
          have ho : (x + 0 + cy) % 4294967296 < 4294967296 := Nat.mod_lt _ (by omega)
          have hc2 : (x + 0 + cy) / 4294967296 ≤ 1 := by omega
          generalize (x + 0 + cy) / 4294967296 = q at *
          generalize (x + 0 + cy) % 4294967296 = r at *
          go_wp2
          go_roundw
          case rel => exact ⟨j + 1, q, os ++ [r], by omega, by go_num, rfl, hc2, by simp [hol], hob.snoc ho, add_step0 hol Hx.out (by omega) HV.out hdm, StepA.out r, hP.setCell (Nat.le_refl _) _⟩
          case measure => simp [intOf]; omega
      · obtain rfl : j = n := by omega
        have hown : wr.ownsRow w.heap.size 67 1 (.slice (some ⟨w.heap.size, 0, none⟩) j (j + 1)) j (wds os) := by
          refine ⟨by simp [hol], .inr ⟨w.heap.size, j + 1, _, rfl, Nat.le_refl _, hA, by omega, by simp [maxLen]; omega, by simp [hol], ?_⟩⟩
          simp [hol]
        have hsz := hP.size
        go_wp2_with (at_builtin; refine wpList_push eiU32 rfl (.tmp 49) (.tmp 51) rfl #[.int .u32 (cy : Int)] rfl (by simp [Value.oneCell']) rfl rfl hown (by simp [maxLen]; omega) (by omega) hsz ?_)
        intro A3 c3 w3 ho3 hg3
        have hP3 := pu_push hP hown (Nat.le_refl _) hg3
        have hle3 := own_le ho3
        have hS3 : Sl w3 1 A3 (j + 1) c3 (wds (os ++ [cy])) := by
          have := Sl.of_own ho3
          simpa using this
        have hv3 : pval 4294967296 (os ++ [cy]) = pval 4294967296 l + pval 4294967296 k := by
          have := HV.out
          rw [List.take_of_length_le (by omega), List.take_of_length_le (by omega)] at this
          rw [pval_snoc, hol, this]
        have Hv3 := Lib.hid hv3
        clear hv3
        go_wp2
        go_ret
        exact ⟨A3, j + 1, c3, os ++ [cy], rfl, by omega, hle3.2, hS3, hob.snoc (by omega), by rw [Hv3.out], hP3⟩

/- zed: minus. -/
theorem borrow_step {p s kk ll c x y r q : Nat} (h : s + kk = ll + p * c) (e : r + y + c = x + 4294967296 * q) : s + p * r + (kk + p * y) = ll + p * x + p * 4294967296 * q := by
  have h1 : p * (r + y + c) = p * (x + 4294967296 * q) := by rw [e]
  rw [Nat.mul_add, Nat.mul_add, Nat.mul_add, ← Nat.mul_assoc] at h1
  omega
theorem sub_eq {x y c : Nat} (hx : x < 4294967296) (hy : y < 4294967296) (hc : c ≤ 1) : (x + 4294967296 - y - c) % 4294967296 + y + c = x + 4294967296 * (if x < y + c then 1 else 0) := by
  split <;> omega
theorem sub_step {l k os : List Nat} {j x y cy q r : Nat} (ho : os.length = j) (hx : l[j]? = some x) (hy : k[j]? = some y) (hv : pval 4294967296 os + pval 4294967296 (k.take j) = pval 4294967296 (l.take j) + 4294967296 ^ j * cy) (e : r + y + cy = x + 4294967296 * q) :
    pval 4294967296 (os ++ [r]) + pval 4294967296 (k.take (j + 1)) = pval 4294967296 (l.take (j + 1)) + 4294967296 ^ (j + 1) * q := by
  rw [pval_snoc, ho, Nat.pow_succ, take_next hx, take_next hy]
  exact borrow_step hv e
theorem sub_step0 {l k os : List Nat} {j x cy q r : Nat} (ho : os.length = j) (hx : l[j]? = some x) (hy : k.length ≤ j) (hv : pval 4294967296 os + pval 4294967296 (k.take j) = pval 4294967296 (l.take j) + 4294967296 ^ j * cy) (e : r + 0 + cy = x + 4294967296 * q) :
    pval 4294967296 (os ++ [r]) + pval 4294967296 (k.take (j + 1)) = pval 4294967296 (l.take (j + 1)) + 4294967296 ^ (j + 1) * q := by
  rw [pval_snoc, ho, Nat.pow_succ, take_next hx, List.take_of_length_le (show k.length ≤ j + 1 by omega)]
  rw [List.take_of_length_le hy] at hv
  have := borrow_step hv e
  omega

set_option maxHeartbeats 2000000 in
set_option maxRecDepth 100000 in
theorem minus_any (A C : Option Addr) (n c m d : Nat) (l k : List Nat) (w : World) (h : Sl w 1 A n c (wds l)) (g : Sl w 1 C m d (wds k)) (hn : n ≤ 100000) (hm : m ≤ 100000) (hl : Below_ 4294967296 l) (hk : Below_ 4294967296 k) (tk : Tidy k)
    (hge : pval 4294967296 k ≤ pval 4294967296 l) :
    Calls Tryd.prog 70 #[.slice A n c, .slice C m d] w fun e w' => ∃ A' n' c' o, e = .returned (.slice A' n' c') ∧ n' = n ∧ c' ≤ maxLen ∧ Sl w' 1 A' n' c' (wds o) ∧ Below_ 4294967296 o ∧ pval 4294967296 o = pval 4294967296 l - pval 4294967296 k ∧ Pu w w' := by
  have ll := h.wlen
  have lk := g.wlen
  have hmn : m ≤ n := by
    have h1 := pval_lt hl
    have := tidy_len tk (k := l.length) (by omega)
    omega
  have hmk := fun W => run_make_words n n (by omega) (by omega) W
  have Hmk := Lib.hid hmk
  clear hmk
  have hW : Pu w (w.alloc (.cells (Array.replicate n (.int .u32 0)) 67)) := (Pu.refl w).alloc _
  have hA := WA.made w n
  go_enter Tryd.func70, Tryd.ntmps70
  go_wp2_with (simp only [Hmk.out])
  go_loopw [6, 14] (fun cv v ws => ∃ (j cy : Nat) (os : List Nat), j ≤ n ∧ v = .int .i64 j ∧ cv = .int .u32 (cy : Int) ∧ cy ≤ 1 ∧ os.length = j ∧ Below_ 4294967296 os ∧ pval 4294967296 os + pval 4294967296 (k.take j) = pval 4294967296 (l.take j) + 4294967296 ^ j * cy ∧ WA ws w.heap.size (os ++ List.replicate (n - j) 0) ∧ Pu w ws) (fun _ v _ => n - (intOf v).toNat)
  case atStart => exact ⟨0, 0, [], Nat.zero_le _, rfl, rfl, by omega, rfl, Below_.nil _, by simp [pval], by simpa using hA, hW⟩
  case round =>
    obtain ⟨j, cy, os, hj, rfl, rfl, hcy, hol, hob, hv, hA, hP⟩ := hrel
    have HV := Lib.hid hv
    clear hv
    have hA0 := hA
    by_cases hlt : j < n
    · obtain ⟨x, hx⟩ : ∃ x, l[j]? = some x := ⟨_, List.getElem?_eq_getElem (by omega)⟩
      have hxb := hl x (List.mem_of_getElem? hx)
      obtain ⟨b1, o1, ea, hb1, c1'⟩ := (h.pu hP).wat hx
      have Hx := Lib.hid hx
      clear hx
      have hg0 : wr.cell? ⟨w.heap.size, j, none⟩ = some (.int .u32 0) := by
        have := hA.cell (j := j) (x := 0) (by
          rw [List.getElem?_append_right (by omega), hol, Nat.sub_self, List.getElem?_replicate, if_pos (by omega)])
        simpa using this
      have hf0 := hA.frozen j
      have stepA : ∀ y, WA (wr.setCell ⟨w.heap.size, j, none⟩ (.int .u32 (y : Nat))) w.heap.size ((os ++ [y]) ++ List.replicate (n - (j + 1)) 0) := fun y => by
        have h2 := hA0.set_ j y
        rwa [fill_next hol (by omega)] at h2
      have StepA := Lib.hid stepA
      clear stepA hA hA0
      by_cases hjm : j < m
      · obtain ⟨y, hy⟩ : ∃ y, k[j]? = some y := ⟨_, List.getElem?_eq_getElem (by omega)⟩
        have hyb := hk y (List.mem_of_getElem? hy)
        obtain ⟨b2, o2, eb, hb2, c2'⟩ := (g.pu hP).wat hy
        have Hy := Lib.hid hy
        clear hy
        subst ea eb
        go_wp2_with fail
        refine (sub32_any x y cy _ hxb hyb hcy).mono ?_
        rintro e w1 ⟨rfl, rfl⟩
        have hdm := sub_eq hxb hyb hcy
        have ho : (x + 4294967296 - y - cy) % 4294967296 < 4294967296 := Nat.mod_lt _ (by omega)
        have hc2 : (if x < y + cy then 1 else 0) ≤ 1 := by split <;> omega
        generalize (if x < y + cy then 1 else 0) = q at *
        generalize (x + 4294967296 - y - cy) % 4294967296 = r at *
        go_wp2
        go_roundw
        case rel => exact ⟨j + 1, q, os ++ [r], by omega, by go_num, rfl, hc2, by simp [hol], hob.snoc ho, sub_step hol Hx.out Hy.out HV.out hdm, StepA.out r, hP.setCell (Nat.le_refl _) _⟩
        case measure => simp [intOf]; omega
      · subst ea
        go_wp2_with fail
        refine (sub32_any x 0 cy _ hxb (by omega) hcy).mono ?_
        rintro e w1 ⟨rfl, rfl⟩
        have hdm := sub_eq (y := 0) hxb (by omega) hcy
        have ho : (x + 4294967296 - 0 - cy) % 4294967296 < 4294967296 := Nat.mod_lt _ (by omega)
        have hc2 : (if x < 0 + cy then 1 else 0) ≤ 1 := by split <;> omega
        generalize (if x < 0 + cy then 1 else 0) = q at *
        generalize (x + 4294967296 - 0 - cy) % 4294967296 = r at *
        go_wp2
        go_roundw
        case rel => exact ⟨j + 1, q, os ++ [r], by omega, by go_num, rfl, hc2, by simp [hol], hob.snoc ho, sub_step0 hol Hx.out (by omega) HV.out hdm, StepA.out r, hP.setCell (Nat.le_refl _) _⟩
        case measure => simp [intOf]; omega
    · obtain rfl : j = n := by omega
      have hS3 : Sl wr 1 (some ⟨w.heap.size, 0, none⟩) j j (wds os) := by
        have := hA.sl (n := j) (c := j) (by simp [hol]) (Nat.le_refl _)
        rwa [Nat.sub_self, List.replicate_zero, List.append_nil, List.take_of_length_le (by omega)] at this
      have hv3 : pval 4294967296 os = pval 4294967296 l - pval 4294967296 k := by
        have h1 := HV.out
        have h2 := pval_lt hob
        rw [List.take_of_length_le (by omega), List.take_of_length_le (by omega)] at h1
        rw [hol] at h2
        have h3 : cy = 0 ∨ cy = 1 := by omega
        rcases h3 with rfl | rfl
        · omega
        · omega
      have Hv3 := Lib.hid hv3
      clear hv3
      go_wp2
      go_ret
      exact ⟨_, j, j, os, rfl, rfl, by simp [maxLen]; omega, hS3, hob, Hv3.out, hP⟩
end Go.Proofs.YtckfnbckoclhpaaDoor
