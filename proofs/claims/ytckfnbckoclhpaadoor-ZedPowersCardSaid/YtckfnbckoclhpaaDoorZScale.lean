/- zed: scale, shift. -/
import Derived.Test.YtckfnbckoclhpaaDoorZSub
import Derived.Test.YtckfnbckoclhpaaDoorZMul0
set_option linter.unusedVariables false
namespace Go.Proofs.YtckfnbckoclhpaaDoor
open Go.RowKit

/-- make([]uint32, 0, n + 1) -/
theorem own_made (w : World) (n : Nat) (hn : n ≤ 1000000) : (w.alloc (.cells (Array.replicate (n + 1) (.int .u32 0)) 67)).ownsRow w.heap.size 67 1 (.slice (some ⟨w.heap.size, 0, none⟩) 0 (n + 1)) 0 (wds []) := by
  refine ⟨by simp, .inr ⟨w.heap.size, n + 1, _, rfl, Nat.le_refl _, heap_alloc_new w _, by omega, by simp [maxLen]; omega, by simp, by simp⟩⟩
theorem own_snoc {w : World} {base n c r : Nat} {A : Option Addr} {os : List Nat} (h : w.ownsRow base 67 1 (.slice A n c) n (wds os ++ #[Value.int .u32 (r : Int)].toList)) : w.ownsRow base 67 1 (.slice A n c) n (wds (os ++ [r])) := by
  show w.ownsRow _ _ _ _ _ (List.map _ (_ ++ _))
  rw [List.map_append]
  exact h

set_option maxHeartbeats 2000000 in
set_option maxRecDepth 100000 in
theorem scale_any (A : Option Addr) (n c : Nat) (l : List Nat) (d m : Nat) (w : World) (h : Sl w 1 A n c (wds l)) (hn : n ≤ 100000) (hb : Below_ 4294967296 l) (hd : d ≤ 1000000000) (hm : m ≤ d) :
    Calls Tryd.prog 46 #[.slice A n c, .int .u64 (d : Int), .int .u64 (m : Int)] w fun e w' => ∃ A' c' o, e = .returned (.slice A' (n + 1) c') ∧ c' ≤ maxLen ∧ Sl w' 1 A' (n + 1) c' (wds o) ∧ Below_ 4294967296 o ∧ pval 4294967296 o = pval 4294967296 l * d + m ∧ Beyond w.heap.size A' ∧ Pu w w' := by
  have hl := h.wlen
  have hmk := fun W => run_make_words 0 (n + 1) (by omega) (by omega) W
  have hcast : ((n + 1 : Nat) : Int) = (n : Int) + 1 := by omega
  rw [hcast, show ((0 : Nat) : Int) = 0 from rfl] at hmk
  have Hmk := Lib.hid hmk
  have hw1 : IntKind.i64.wrap ((n : Int) + 1) = (n : Int) + 1 := IntWalk.i64_in _ (by omega)
  have hW : Pu w (w.alloc (.cells (Array.replicate (n + 1) (.int .u32 0)) 67)) := (Pu.refl w).alloc _
  have hO := own_made w n (by omega)
  clear hmk hcast
  go_enter Tryd.func46, Tryd.ntmps46
  go_wp2_with (simp only [Hmk.out])
  go_loopw [2, 7, 16] (fun mv ov iv ws => ∃ (j k c1 : Nat) (A1 : Option Addr) (os : List Nat), j ≤ n ∧ mv = .int .u64 (k : Int) ∧ ov = .slice A1 j c1 ∧ iv = .int .i64 j ∧ ws.ownsRow w.heap.size 67 1 (.slice A1 j c1) j (wds os) ∧ os.length = j ∧ Below_ 4294967296 os ∧ k ≤ d ∧ pval 4294967296 os + 4294967296 ^ j * k = pval 4294967296 (l.take j) * d + m ∧ Pu w ws) (fun _ _ iv _ => n - (intOf iv).toNat)
  case atStart => exact ⟨0, m, n + 1, _, [], Nat.zero_le _, rfl, rfl, rfl, hO, rfl, Below_.nil _, hm, by simp [pval], hW⟩
  case round =>
    clear hO hW
    obtain ⟨j, k, c1, A1, os, hj, rfl, rfl, rfl, hO, hol, hob, hk, hv, hP⟩ := hrel
    have HV := Lib.hid hv
    clear hv
    have hsz := hP.size
    by_cases hlt : j < n
    · obtain ⟨x, hx⟩ : ∃ x, l[j]? = some x := ⟨_, List.getElem?_eq_getElem (by omega)⟩
      have hxb := hb x (List.mem_of_getElem? hx)
      obtain ⟨b1, o1, ea, hb1, hc1⟩ := (h.pu hP).wat hx
      have Hx := Lib.hid hx
      clear hx
      subst ea
      have hq := scale_more hk hxb
      have hpb : x * d ≤ 4294967295 * d := Nat.mul_le_mul_right _ (by omega)
      obtain ⟨p, hp⟩ : ∃ p, p = x * d := ⟨_, rfl⟩
      have hpi : (x : Int) * (d : Int) = (p : Int) := by rw [hp, Int.natCast_mul]
      rw [← hp] at hq hpb
      have hdm := Nat.div_add_mod (k + p) 4294967296
      have hr := Nat.mod_lt (k + p) (show 4294967296 > 0 by omega)
      have e1 : ((k : Int) + (p : Int)) % 4294967296 = (((k + p) % 4294967296 : Nat) : Int) := by omega
      have e2 : ((k : Int) + (p : Int)) / 4294967296 = (((k + p) / 4294967296 : Nat) : Int) := by omega
      generalize (k + p) / 4294967296 = q at *
      generalize (k + p) % 4294967296 = r at *
      have Hp := Lib.hid hp
      have Hdm := Lib.hid hdm
      have hx64 := u64_small (a := x) (by omega)
      have hp64 := u64_small (a := p) (by omega)
      have hm2 : IntKind.u64.wrap ((k : Int) + (p : Int)) = (k : Int) + (p : Int) := by rw [IntKind.wrap_u64]; omega
      clear hp hdm
      go_wp2_with (at_builtin; refine wpList_push eiU32 rfl (.tmp 26) (.tmp 29) rfl #[.int .u32 (r : Int)] rfl (by simp [Value.oneCell']) rfl rfl hO (by simp [maxLen]; omega) (by omega) hsz ?_)
      intro A3 c3 w3 ho3 hg3
      have hP3 := pu_push hP hO (Nat.le_refl _) hg3
      have ho4 := own_snoc ho3
      clear hO hg3 ho3 hsz hP
      go_wp2
      go_roundw
      case rel => exact ⟨j + 1, q, c3, A3, os ++ [r], by omega, rfl, rfl, by go_num, ho4, by simp [hol], hob.snoc hr, hq, by
        have h2 := scale_step HV.out (by rw [← Hp.out]; exact Hdm.out)
        rw [pval_snoc, hol, Nat.pow_succ, h2, take_next Hx.out, Nat.add_mul, Nat.mul_assoc]
        omega, hP3⟩
      case measure => simp [intOf]; omega
    · obtain rfl : j = n := by omega
      have hk32 : (k : Int) % 4294967296 = (k : Int) := by omega
      go_wp2_with (at_builtin; refine wpList_push eiU32 rfl (.tmp 34) (.tmp 37) rfl #[.int .u32 (k : Int)] rfl (by simp [Value.oneCell']) rfl rfl hO (by simp [maxLen]; omega) (by omega) hsz ?_)
      intro A3 c3 w3 ho3 hg3
      have hP3 := pu_push hP hO (Nat.le_refl _) hg3
      have ho4 := own_snoc ho3
      have hle3 := own_le ho4
      have hS3 := Sl.of_own ho4
      have hB3 := Beyond.own ho4
      have hv3 : pval 4294967296 (os ++ [k]) = pval 4294967296 l * d + m := by
        have := HV.out
        rw [List.take_of_length_le (by omega)] at this
        rw [pval_snoc, hol, this]
      have Hv3 := Lib.hid hv3
      clear hv3 hO hg3 ho3 ho4 hsz
      go_wp2
      go_ret
      exact ⟨A3, c3, os ++ [k], rfl, hle3.2, hS3, hob.snoc (by omega), Hv3.out, hB3, hP3⟩

theorem or_shift (k x s : Nat) (hk : k < 2 ^ s) (hx : x < 4294967296) (hs : s ≤ 31) : bits BinOp.or IntKind.u64 (k : Int) (IntKind.u64.wrap ((x : Int) * 2 ^ s)) = ((k + x * 2 ^ s : Nat) : Int) ∧ k + x * 2 ^ s < 9223372036854775808 := by
  have h2 : 2 ^ s ≤ 2 ^ 31 := Nat.pow_le_pow_right (by omega) hs
  have hm : x * 2 ^ s ≤ 4294967295 * 2 ^ 31 := Nat.mul_le_mul (by omega) h2
  have e : (x : Int) * 2 ^ s = ((x * 2 ^ s : Nat) : Int) := by simp
  rw [e, u64_small (by omega), u64_or_nat k _ (by omega) (by omega), Nat.or_comm, ← Nat.shiftLeft_eq, ← Nat.shiftLeft_add_eq_or_of_lt hk, Nat.shiftLeft_eq]
  exact ⟨by rw [Nat.add_comm], by omega⟩

set_option maxHeartbeats 2000000 in
set_option maxRecDepth 100000 in
theorem shift_any (A : Option Addr) (n c : Nat) (l : List Nat) (s : Nat) (w : World) (h : Sl w 1 A n c (wds l)) (hn : n ≤ 100000) (hb : Below_ 4294967296 l) (hs : s ≤ 31) :
    Calls Tryd.prog 77 #[.slice A n c, .int .i64 (s : Int)] w fun e w' => ∃ A' c' o, e = .returned (.slice A' (n + 1) c') ∧ c' ≤ maxLen ∧ Sl w' 1 A' (n + 1) c' (wds o) ∧ Below_ 4294967296 o ∧ pval 4294967296 o = pval 4294967296 l * 2 ^ s ∧ Pu w w' ∧ (∃ cs, w'.ownsRow w.heap.size 67 1 (.slice A' (n + 1) c') (n + 1) cs ∧ cs = wds o) := by
  have hl := h.wlen
  have hmk := fun W => run_make_words 0 (n + 1) (by omega) (by omega) W
  have hcast : ((n + 1 : Nat) : Int) = (n : Int) + 1 := by omega
  rw [hcast, show ((0 : Nat) : Int) = 0 from rfl] at hmk
  have Hmk := Lib.hid hmk
  have hw1 : IntKind.i64.wrap ((n : Int) + 1) = (n : Int) + 1 := IntWalk.i64_in _ (by omega)
  have hW : Pu w (w.alloc (.cells (Array.replicate (n + 1) (.int .u32 0)) 67)) := (Pu.refl w).alloc _
  have hO := own_made w n (by omega)
  clear hmk hcast
  go_enter Tryd.func77, Tryd.ntmps77
  go_wp2_with (simp only [Hmk.out])
  go_loopw [5, 6, 15] (fun ov mv iv ws => ∃ (j k c1 : Nat) (A1 : Option Addr) (os : List Nat), j ≤ n ∧ mv = .int .u64 (k : Int) ∧ ov = .slice A1 j c1 ∧ iv = .int .i64 j ∧ ws.ownsRow w.heap.size 67 1 (.slice A1 j c1) j (wds os) ∧ os.length = j ∧ Below_ 4294967296 os ∧ k < 2 ^ s ∧ pval 4294967296 os + 4294967296 ^ j * k = pval 4294967296 (l.take j) * 2 ^ s ∧ Pu w ws) (fun _ _ iv _ => n - (intOf iv).toNat)
  case atStart => exact ⟨0, 0, n + 1, _, [], Nat.zero_le _, rfl, rfl, rfl, hO, rfl, Below_.nil _, Nat.pow_pos (by omega), by simp [pval], hW⟩
  case round =>
    clear hO hW
    obtain ⟨j, k, c1, A1, os, hj, rfl, rfl, rfl, hO, hol, hob, hk, hv, hP⟩ := hrel
    have HV := Lib.hid hv
    clear hv
    have hsz := hP.size
    by_cases hlt : j < n
    · obtain ⟨x, hx⟩ : ∃ x, l[j]? = some x := ⟨_, List.getElem?_eq_getElem (by omega)⟩
      have hxb := hb x (List.mem_of_getElem? hx)
      obtain ⟨b1, o1, ea, hb1, hc1⟩ := (h.pu hP).wat hx
      have Hx := Lib.hid hx
      clear hx
      subst ea
      have hx64 := u64_small (a := x) (by omega)
      obtain ⟨hor, hM⟩ := or_shift k x s hk hxb hs
      have hMs := shift_lt (show s ≤ 32 by omega) hk hxb
      obtain ⟨p, hp⟩ : ∃ p, p = x * 2 ^ s := ⟨_, rfl⟩
      rw [← hp] at hM hMs hor
      have hq : (k + p) / 4294967296 < 2 ^ s := (Nat.div_lt_iff_lt_mul (by omega)).2 (by rw [Nat.mul_comm]; exact hMs)
      have hdm := Nat.div_add_mod (k + p) 4294967296
      have hr := Nat.mod_lt (k + p) (show 4294967296 > 0 by omega)
      have e1 : ((k + p : Nat) : Int) % 4294967296 = (((k + p) % 4294967296 : Nat) : Int) := by omega
      have e2 : ((k + p : Nat) : Int) / 4294967296 = (((k + p) / 4294967296 : Nat) : Int) := by omega
      generalize (k + p) / 4294967296 = q at *
      generalize (k + p) % 4294967296 = r at *
      have Hp := Lib.hid hp
      have Hdm := Lib.hid hdm
      generalize k + p = M at hor e1 e2 hM
      clear hp hdm hMs
      go_wp2_with (at_builtin; refine wpList_push eiU32 rfl (.tmp 25) (.tmp 28) rfl #[.int .u32 (r : Int)] rfl (by simp [Value.oneCell']) rfl rfl hO (by simp [maxLen]; omega) (by omega) hsz ?_)
      intro A3 c3 w3 ho3 hg3
      have hP3 := pu_push hP hO (Nat.le_refl _) hg3
      have ho4 := own_snoc ho3
      clear hO hg3 ho3 hsz hP
      go_wp2
      go_roundw
      case rel => exact ⟨j + 1, q, c3, A3, os ++ [r], by omega, rfl, rfl, by go_num, ho4, by simp [hol], hob.snoc hr, hq, by
        have h2 := scale_step HV.out (by rw [← Hp.out]; exact Hdm.out)
        rw [pval_snoc, hol, Nat.pow_succ, h2, take_next Hx.out, Nat.add_mul, Nat.mul_assoc], hP3⟩
      case measure => simp [intOf]; omega
    · obtain rfl : j = n := by omega
      have hkb : k < 4294967296 := Nat.lt_of_lt_of_le hk (show 2 ^ s ≤ 2 ^ 32 from Nat.pow_le_pow_right (by omega) (by omega))
      have hk32 : (k : Int) % 4294967296 = (k : Int) := by omega
      go_wp2_with (at_builtin; refine wpList_push eiU32 rfl (.tmp 33) (.tmp 36) rfl #[.int .u32 (k : Int)] rfl (by simp [Value.oneCell']) rfl rfl hO (by simp [maxLen]; omega) (by omega) hsz ?_)
      intro A3 c3 w3 ho3 hg3
      have hP3 := pu_push hP hO (Nat.le_refl _) hg3
      have ho4 := own_snoc ho3
      have hle3 := own_le ho4
      have hS3 := Sl.of_own ho4
      have hv3 : pval 4294967296 (os ++ [k]) = pval 4294967296 l * 2 ^ s := by
        have := HV.out
        rw [List.take_of_length_le (by omega)] at this
        rw [pval_snoc, hol, this]
      have Hv3 := Lib.hid hv3
      have HO4 := Lib.hid ho4
      clear hv3 hO hg3 ho3 ho4 hsz
      go_wp2
      go_ret
      exact ⟨A3, c3, os ++ [k], rfl, hle3.2, hS3, hob.snoc hkb, Hv3.out, hP3, _, HO4.out, rfl⟩
end Go.Proofs.YtckfnbckoclhpaaDoor
