/- The document's lists of numbers: Same, Has, Both, Put, Of. -/
import Derived.Test.YtckfnbckoclhpaaSetI2
import Derived.Test.YtckfnbckoclhpaaCls2
import Derived.BigQuiet
import Derived.Deep.QuietTactic
set_option linter.unusedVariables false
namespace Go.Proofs.Ytckfnbckoclhpaa
open Go.RowKit

theorem filter_snoc (l : List Int) (z : Int) (p : Int → Bool) : (l ++ [z]).filter p = l.filter p ++ (if p z then [z] else []) := by
  rw [List.filter_append]
  congr 1
  by_cases h : p z <;> simp [h]
theorem ivs_get {zs : List Int} {k : Nat} {u : Value} (hk : k < zs.length) (h : (ivs zs)[k]? = some u) : u = .int .i64 zs[k] := by
  rw [List.getElem?_map, List.getElem?_eq_getElem hk] at h
  injection h with h
  exact h.symm

set_option maxRecDepth 100000 in
theorem same_int (A B : Option Addr) (n c d : Nat) (zs : List Int) (w : World) (h : Sl w 1 A n c (ivs zs)) (hy : Sl w 1 B n d (ivs zs)) (hn : n ≤ 1000000) :
    Calls Try.prog 23 #[.slice A n c, .slice B n d] w fun e w' => e = .returned (.bool true) ∧ Pu w w' := by
  have hl : zs.length = n := by have := h.1; simpa using this
  go_enter Try.func23, Try.ntmps23
  go_wp2_with fail
  go_loopw [5] (fun i wr => ∃ k : Nat, k ≤ n ∧ i = .int .i64 k ∧ Pu w wr) (fun i _ => n - (intOf i).toNat)
  case atStart => exact ⟨0, Nat.zero_le _, rfl, Pu.refl _⟩
  case round =>
    obtain ⟨k, hk, rfl, hP⟩ := hrel
    by_cases hlt : k < n
    · obtain ⟨g, off, u, rfl, _, hu, hc⟩ := (h.pu hP).at_ hlt
      obtain ⟨g', off', u', rfl, _, hu', hc'⟩ := (hy.pu hP).at_ hlt
      obtain rfl := ivs_get (by omega) hu
      obtain rfl := ivs_get (by omega) hu'
      clear hu hu'
      generalize zs[k] = z at *
      go_wp2_with fail
      go_quiet (fail)
      go_wp2
      go_roundw
      case rel => exact ⟨k + 1, by omega, by go_num, hP.drewN _⟩
      case measure => simp [intOf]; omega
    · go_wp2
      go_ret
      exact ⟨rfl, hP⟩

set_option maxRecDepth 100000 in
theorem refHas_int (A : Option Addr) (n c : Nat) (zs : List Int) (x : Int) (w : World) (h : Sl w 1 A n c (ivs zs)) (hn : n ≤ 1000000) :
    Calls Try.prog 30 #[.slice A n c, .int .i64 x] w fun e w' => e = .returned (.bool (decide (x ∈ zs))) ∧ w = w' := by
  have hl : zs.length = n := by have := h.1; simpa using this
  go_enter Try.func30, Try.ntmps30
  go_wp2_with fail
  go_loop [5] (fun i => ∃ k : Nat, k ≤ n ∧ i = .int .i64 k ∧ x ∉ zs.take k) (fun i => n - (intOf i).toNat)
  case atStart => exact ⟨0, Nat.zero_le _, rfl, by simp⟩
  case round =>
    obtain ⟨k, hk, rfl, hno⟩ := hrel
    by_cases hlt : k < n
    · obtain ⟨g, off, u, rfl, _, hu, hc⟩ := h.at_ hlt
      obtain rfl := ivs_get (by omega) hu
      clear hu
      have htk := Lib.hid (List.take_succ_eq_append_getElem (l := zs) (i := k) (by omega))
      have hmem := Lib.hid (List.getElem_mem (l := zs) (n := k) (by omega))
      generalize zs[k] = z at *
      by_cases e : z = x
      · subst e
        have hb : (z == z) = true := by simp
        go_wp2
        go_ret
        exact ⟨by simp [hmem.out], rfl⟩
      · have hb : (z == x) = false := by simp [e]
        have E := Lib.hid e
        clear e
        go_wp2
        go_round
        case rel => exact ⟨k + 1, by omega, by go_num, by rw [htk.out, List.mem_append]; simp [hno, Ne.symm E.out]⟩
        case measure => simp [intOf]; omega
    · have hall : zs.take k = zs := List.take_of_length_le (by omega)
      rw [hall] at hno
      clear hall
      go_wp2
      go_ret
      exact ⟨by simp, rfl⟩

set_option maxHeartbeats 1000000 in
set_option maxRecDepth 100000 in
theorem refBoth_int (A B : Option Addr) (n c m d : Nat) (zs ys : List Int) (b : Bool) (w : World) (h : Sl w 1 A n c (ivs zs)) (hy : Sl w 1 B m d (ivs ys)) (hn : n ≤ 1000000) (hm : m ≤ 1000000) :
    Calls Try.prog 33 #[.slice A n c, .slice B m d, .bool b] w fun e w' => ∃ A' n' c', e = .returned (.slice A' n' c') ∧ n' ≤ n ∧ Sl w' 1 A' n' c' (ivs (zs.filter fun x => decide (x ∈ ys) == b)) ∧ Pu w w' := by
  have hl : zs.length = n := by have := h.1; simpa using this
  go_enter Try.func33, Try.ntmps33
  go_wp2_with fail
  go_loopw [7, 8] (fun v i wr => ∃ (k n' : Nat) (A' : Option Addr) (c' : Nat) (l : List Int), k ≤ n ∧ n' ≤ k ∧ l = (zs.take k).filter (fun x => decide (x ∈ ys) == b) ∧ i = .int .i64 k ∧ v = .slice A' n' c' ∧ wr.ownsRow w.heap.size 3 1 (.slice A' n' c') n' (ivs l) ∧ Pu w wr) (fun _ i _ => n - (intOf i).toNat)
  case atStart => exact ⟨0, 0, none, 0, [], Nat.zero_le _, Nat.le_refl _, rfl, rfl, rfl, World.ownsRow_nil _ _ _ _, Pu.refl _⟩
  case round =>
    obtain ⟨k, n', A', c', l, hk, hnk, hle, rfl, rfl, hown, hP⟩ := hrel
    have Hl := Lib.hid hle
    clear hle
    by_cases hlt : k < n
    · obtain ⟨g, off, u, rfl, _, hu, hc⟩ := (h.pu hP).at_ hlt
      obtain rfl := ivs_get (by omega) hu
      clear hu
      have htk := Lib.hid (List.take_succ_eq_append_getElem (l := zs) (i := k) (by omega))
      have hsz := hP.size
      generalize zs[k] = z at *
      have hre := refHas_int B m d ys z wr (hy.pu hP) hm
      obtain ⟨q, hq⟩ : ∃ q, decide (z ∈ ys) = q := ⟨_, rfl⟩
      have hz := Lib.hid hq
      rw [hq] at hre
      clear hq
      by_cases hin : (q == b) = true
      · have Hin := Lib.hid hin
        go_wp2_with (first
          | (at_builtin; refine wpList_push eiInt rfl _ _ rfl #[.int .i64 z] rfl (by simp [Value.oneCell']) rfl rfl hown (by simp [maxLen]; omega) (by omega) hsz ?_)
          | (go_at_call 30; refine hre.mono ?_; rintro e w' ⟨rfl, rfl⟩))
        intro A1 c1 w2 hown1 hg1
        have hP2 := pu_push hP hown (Nat.le_refl _) hg1
        clear hown hg1 hP hc hre
        go_wp2
        go_roundw
        case rel => exact ⟨k + 1, n' + 1, A1, c1, l ++ [z], by omega, by omega, by rw [htk.out, filter_snoc, Hl.out, hz.out, Hin.out]; rfl, by go_num, rfl, by simpa using hown1, hP2⟩
        case measure => simp [intOf]; omega
      · have hin2 : (q == b) = false := by simpa using hin
        clear hin
        have Hin := Lib.hid hin2
        go_wp2_with (go_at_call 30; refine hre.mono ?_; rintro e w' ⟨rfl, rfl⟩)
        go_roundw
        case rel => exact ⟨k + 1, n', A', c', l, by omega, by omega, by rw [htk.out, filter_snoc, Hl.out, hz.out, Hin.out]; simp, by go_num, rfl, hown, hP⟩
        case measure => simp [intOf]; omega
    · go_wp2
      go_ret
      refine ⟨A', n', c', rfl, by omega, ?_, hP⟩
      have e1 : l = zs.filter (fun x => decide (x ∈ ys) == b) := by rw [Hl.out, List.take_of_length_le (by omega)]
      rw [← e1]
      exact Sl.of_own hown

/-- one step of the document's Put -/
def pstep (x : Int) (r : Bool × List Int) (y : Int) : Bool × List Int :=
  match r.1, decide (x < y) with
  | false, true => (true, r.2 ++ [x] ++ [y])
  | d, _ => (d, r.2 ++ [y])
def pfold (x : Int) (l : List Int) : Bool × List Int := l.foldl (pstep x) (false, [])
theorem pfold_snoc (x : Int) (l : List Int) (y : Int) : pfold x (l ++ [y]) = pstep x (pfold x l) y := by simp [pfold]
theorem pfold_len (x : Int) (l : List Int) : (pfold x l).2.length = l.length + (if (pfold x l).1 then 1 else 0) := by
  have key : ∀ (l : List Int) (r : Bool × List Int), (l.foldl (pstep x) r).2.length + (if r.1 then 1 else 0) = r.2.length + l.length + (if (l.foldl (pstep x) r).1 then 1 else 0) := by
    intro l
    induction l with
    | nil => intro r; simp; rfl
    | cons y l ih =>
      intro r
      have := ih (pstep x r y)
      rw [List.foldl_cons]
      obtain ⟨d, out⟩ := r
      unfold pstep at this ⊢
      cases d <;> cases hq : decide (x < y) <;> simp [hq] at this ⊢ <;> omega
  have := key l (false, [])
  simp at this
  unfold pfold
  exact this
/-- the document's Put, of a number that is not there -/
def putL (x : Int) (l : List Int) : List Int := if (pfold x l).1 then (pfold x l).2 else (pfold x l).2 ++ [x]

set_option maxHeartbeats 2000000 in
set_option maxRecDepth 100000 in
theorem refPut_new (A : Option Addr) (n c : Nat) (zs : List Int) (x : Int) (w : World) (h : Sl w 1 A n c (ivs zs)) (hn : n ≤ 1000000) (hx : x ∉ zs) :
    Calls Try.prog 59 #[.slice A n c, .int .i64 x] w fun e w' => ∃ A' c', e = .returned (.tuple #[.slice A' (n + 1) c', .bool true]) ∧ Sl w' 1 A' (n + 1) c' (ivs (putL x zs)) ∧ Pu w w' := by
  have hl : zs.length = n := by have := h.1; simpa using this
  go_enter Try.func59, Try.ntmps59
  go_wp2_with fail
  go_loopw [6, 7, 8] (fun v dv i wr => ∃ (k n' : Nat) (A' : Option Addr) (c' : Nat) (d : Bool) (l : List Int), k ≤ n ∧ n' ≤ k + 1 ∧ pfold x (zs.take k) = (d, l) ∧ i = .int .i64 k ∧ dv = .bool d ∧ v = .slice A' n' c' ∧ wr.ownsRow w.heap.size 3 1 (.slice A' n' c') n' (ivs l) ∧ Pu w wr) (fun _ _ i _ => n - (intOf i).toNat)
  case atStart => exact ⟨0, 0, none, 0, false, [], Nat.zero_le _, Nat.zero_le _, rfl, rfl, rfl, rfl, World.ownsRow_nil _ _ _ _, Pu.refl _⟩
  case round =>
    obtain ⟨k, n', A', c', d, l, hk, hnk, hle, rfl, rfl, rfl, hown, hP⟩ := hrel
    have Hl := Lib.hid hle
    clear hle
    have hsz := hP.size
    by_cases hlt : k < n
    · obtain ⟨g, off, u, rfl, _, hu, hcw⟩ := h.at_ hlt
      obtain rfl := ivs_get (by omega) hu
      clear hu
      have htk := Lib.hid (List.take_succ_eq_append_getElem (l := zs) (i := k) (by omega))
      have hne : zs[k] ≠ x := fun e => hx (e ▸ List.getElem_mem _)
      have hnk2 : d = false → n' ≤ k := by
        intro hd
        have := pfold_len x (zs.take k)
        rw [Hl.out] at this
        have h2 := hown.1
        simp [hd] at this h2
        omega
      generalize zs[k] = z at *
      have hb : (z == x) = false := by simp [hne]
      have hc := hP.cellv hcw
      cases d with
      | true =>
        clear hnk2
        go_wp2_with (at_builtin; refine wpList_push eiInt rfl _ _ rfl #[.int .i64 z] rfl (by simp [Value.oneCell']) rfl rfl hown (by simp [maxLen]; omega) (by omega) hsz ?_)
        intro A1 c1 w2 hown1 hg1
        have hP2 := pu_push hP hown (Nat.le_refl _) hg1
        clear hown hg1 hP hc
        go_wp2
        go_roundw
        case rel => exact ⟨k + 1, n' + 1, A1, c1, true, l ++ [z], by omega, by omega, by rw [htk.out, pfold_snoc, Hl.out]; rfl, by go_num, rfl, rfl, by simpa using hown1, hP2⟩
        case measure => simp [intOf]; omega
      | false =>
        have hnk3 := hnk2 rfl
        clear hnk2
        by_cases hlx : x < z
        · have hd : decide (x < z) = true := by simp [hlx]
          have Hd := Lib.hid hd
          clear hd
          go_wp2_with (at_builtin; refine wpList_push eiInt rfl (.tmp 32) (.tmp 34) rfl #[.int .i64 x] rfl (by simp [Value.oneCell']) rfl rfl hown (by simp [maxLen]; omega) (by omega) hsz ?_)
          intro A1 c1 w2 hown1 hg1
          have hP2 := pu_push hP hown (Nat.le_refl _) hg1
          have hc2 := hP2.cellv hcw
          have hsz2 := hP2.size
          clear hown hg1 hP hc hsz
          go_wp2_with (at_builtin; refine wpList_push eiInt rfl (.tmp 36) (.tmp 41) rfl #[.int .i64 z] rfl (by simp [Value.oneCell']) rfl rfl hown1 (by simp [maxLen]; omega) (by omega) hsz2 ?_)
          intro A2 c2 w3 hown2 hg2
          have hP3 := pu_push hP2 hown1 (Nat.le_refl _) hg2
          clear hown1 hg2 hP2 hc2 hsz2
          go_wp2
          go_roundw
          case rel => exact ⟨k + 1, n' + 1 + 1, A2, c2, true, l ++ [x] ++ [z], by omega, by omega, by rw [htk.out, pfold_snoc, Hl.out]; simp [pstep, Hd.out], by go_num, rfl, rfl, by simpa using hown2, hP3⟩
          case measure => simp [intOf]; omega
        · have hd : decide (x < z) = false := by simp; omega
          have Hd := Lib.hid hd
          clear hd
          go_wp2_with (at_builtin; refine wpList_push eiInt rfl (.tmp 36) (.tmp 41) rfl #[.int .i64 z] rfl (by simp [Value.oneCell']) rfl rfl hown (by simp [maxLen]; omega) (by omega) hsz ?_)
          intro A2 c2 w3 hown2 hg2
          have hP3 := pu_push hP hown (Nat.le_refl _) hg2
          clear hown hg2 hP hc hsz
          go_wp2
          go_roundw
          case rel => exact ⟨k + 1, n' + 1, A2, c2, false, l ++ [z], by omega, by omega, by rw [htk.out, pfold_snoc, Hl.out]; simp [pstep, Hd.out], by go_num, rfl, rfl, by simpa using hown2, hP3⟩
          case measure => simp [intOf]; omega
    · have hall : zs.take k = zs := List.take_of_length_le (by omega)
      have Hall := Lib.hid hall
      clear hall
      have hlen := pfold_len x (zs.take k)
      rw [Hl.out] at hlen
      have h2 := hown.1
      simp only [List.length_map, Nat.mul_one] at h2
      have hkl : (zs.take k).length = n := by rw [Hall.out, hl]
      cases d with
      | true =>
        have hnn : n' = n + 1 := by simp [h2, hkl] at hlen; omega
        have e1 : putL x zs = l := by
          unfold putL
          rw [← Hall.out, Hl.out]
          rfl
        have E1 := Lib.hid e1
        clear e1 hlen h2 hkl
        subst hnn
        go_wp2
        go_ret2
        rw [E1.out]
        exact ⟨A', c', rfl, Sl.of_own hown, hP⟩
      | false =>
        have hnn : n' = n := by simp [h2, hkl] at hlen; omega
        have e1 : putL x zs = l ++ [x] := by
          unfold putL
          rw [← Hall.out, Hl.out]
          rfl
        have E1 := Lib.hid e1
        clear e1 hlen h2 hkl
        subst hnn
        go_wp2_with (at_builtin; refine wpList_push eiInt rfl _ _ rfl #[.int .i64 x] rfl (by simp [Value.oneCell']) rfl rfl hown (by simp [maxLen]; omega) (by omega) hsz ?_)
        intro A2 c2 w3 hown2 hg2
        have hP3 := pu_push hP hown (Nat.le_refl _) hg2
        clear hown hg2 hP hsz
        go_wp2
        go_ret2
        rw [E1.out]
        exact ⟨A2, c2, rfl, by simpa using Sl.of_own hown2, hP3⟩

set_option maxHeartbeats 2000000 in
set_option maxRecDepth 100000 in
theorem refPut_old (A : Option Addr) (n c : Nat) (zs : List Int) (x : Int) (w : World) (h : Sl w 1 A n c (ivs zs)) (hn : n ≤ 1000000) (hx : x ∈ zs) :
    Calls Try.prog 59 #[.slice A n c, .int .i64 x] w fun e w' => e = .returned (.tuple #[.slice A n c, .bool false]) ∧ Pu w w' := by
  have hl : zs.length = n := by have := h.1; simpa using this
  go_enter Try.func59, Try.ntmps59
  go_wp2_with fail
  go_loopw [6, 7, 8] (fun v dv i wr => ∃ (k n' : Nat) (A' : Option Addr) (c' : Nat) (d : Bool) (l : List Int), k ≤ n ∧ n' ≤ k + 1 ∧ x ∉ zs.take k ∧ pfold x (zs.take k) = (d, l) ∧ i = .int .i64 k ∧ dv = .bool d ∧ v = .slice A' n' c' ∧ wr.ownsRow w.heap.size 3 1 (.slice A' n' c') n' (ivs l) ∧ Pu w wr) (fun _ _ i _ => n - (intOf i).toNat)
  case atStart => exact ⟨0, 0, none, 0, false, [], Nat.zero_le _, Nat.zero_le _, by simp, rfl, rfl, rfl, rfl, World.ownsRow_nil _ _ _ _, Pu.refl _⟩
  case round =>
    obtain ⟨k, n', A', c', d, l, hk, hnk, hno, hle, rfl, rfl, rfl, hown, hP⟩ := hrel
    have Hl := Lib.hid hle
    clear hle
    have hsz := hP.size
    by_cases hlt : k < n
    · obtain ⟨g, off, u, rfl, _, hu, hcw⟩ := h.at_ hlt
      obtain rfl := ivs_get (by omega) hu
      clear hu
      have htk := Lib.hid (List.take_succ_eq_append_getElem (l := zs) (i := k) (by omega))
      have hnk2 : d = false → n' ≤ k := by
        intro hd
        have := pfold_len x (zs.take k)
        rw [Hl.out] at this
        have h2 := hown.1
        simp [hd] at this h2
        omega
      generalize zs[k] = z at *
      have hc := hP.cellv hcw
      by_cases hne : z = x
      · have hb : (z == x) = true := by simp [hne]
        have HH := Lib.hid hne
        clear hne
        go_wp2
        go_ret2
        exact ⟨rfl, hP⟩
      have hb : (z == x) = false := by simp [hne]
      have Hno := Lib.hid hno
      have Hne := Lib.hid hne
      clear hno hne
      cases d with
      | true =>
        clear hnk2
        go_wp2_with (at_builtin; refine wpList_push eiInt rfl _ _ rfl #[.int .i64 z] rfl (by simp [Value.oneCell']) rfl rfl hown (by simp [maxLen]; omega) (by omega) hsz ?_)
        intro A1 c1 w2 hown1 hg1
        have hP2 := pu_push hP hown (Nat.le_refl _) hg1
        clear hown hg1 hP hc
        go_wp2
        go_roundw
        case rel => exact ⟨k + 1, n' + 1, A1, c1, true, l ++ [z], by omega, by omega, by rw [htk.out, List.mem_append]; simp [Hno.out, Ne.symm Hne.out], by rw [htk.out, pfold_snoc, Hl.out]; rfl, by go_num, rfl, rfl, by simpa using hown1, hP2⟩
        case measure => simp [intOf]; omega
      | false =>
        have hnk3 := hnk2 rfl
        clear hnk2
        by_cases hlx : x < z
        · have hd : decide (x < z) = true := by simp [hlx]
          have Hd := Lib.hid hd
          clear hd
          go_wp2_with (at_builtin; refine wpList_push eiInt rfl (.tmp 32) (.tmp 34) rfl #[.int .i64 x] rfl (by simp [Value.oneCell']) rfl rfl hown (by simp [maxLen]; omega) (by omega) hsz ?_)
          intro A1 c1 w2 hown1 hg1
          have hP2 := pu_push hP hown (Nat.le_refl _) hg1
          have hc2 := hP2.cellv hcw
          have hsz2 := hP2.size
          clear hown hg1 hP hc hsz
          go_wp2_with (at_builtin; refine wpList_push eiInt rfl (.tmp 36) (.tmp 41) rfl #[.int .i64 z] rfl (by simp [Value.oneCell']) rfl rfl hown1 (by simp [maxLen]; omega) (by omega) hsz2 ?_)
          intro A2 c2 w3 hown2 hg2
          have hP3 := pu_push hP2 hown1 (Nat.le_refl _) hg2
          clear hown1 hg2 hP2 hc2 hsz2
          go_wp2
          go_roundw
          case rel => exact ⟨k + 1, n' + 1 + 1, A2, c2, true, l ++ [x] ++ [z], by omega, by omega, by rw [htk.out, List.mem_append]; simp [Hno.out, Ne.symm Hne.out], by rw [htk.out, pfold_snoc, Hl.out]; simp [pstep, Hd.out], by go_num, rfl, rfl, by simpa using hown2, hP3⟩
          case measure => simp [intOf]; omega
        · have hd : decide (x < z) = false := by simp; omega
          have Hd := Lib.hid hd
          clear hd
          go_wp2_with (at_builtin; refine wpList_push eiInt rfl (.tmp 36) (.tmp 41) rfl #[.int .i64 z] rfl (by simp [Value.oneCell']) rfl rfl hown (by simp [maxLen]; omega) (by omega) hsz ?_)
          intro A2 c2 w3 hown2 hg2
          have hP3 := pu_push hP hown (Nat.le_refl _) hg2
          clear hown hg2 hP hc hsz
          go_wp2
          go_roundw
          case rel => exact ⟨k + 1, n' + 1, A2, c2, false, l ++ [z], by omega, by omega, by rw [htk.out, List.mem_append]; simp [Hno.out, Ne.symm Hne.out], by rw [htk.out, pfold_snoc, Hl.out]; simp [pstep, Hd.out], by go_num, rfl, rfl, by simpa using hown2, hP3⟩
          case measure => simp [intOf]; omega
    · have hall : zs.take k = zs := List.take_of_length_le (by omega)
      rw [hall] at hno
      exact absurd hx hno

end Go.Proofs.Ytckfnbckoclhpaa
