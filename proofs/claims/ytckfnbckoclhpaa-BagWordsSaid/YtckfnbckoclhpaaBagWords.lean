/- BagWords: the walk. -/
import Derived.Test.YtckfnbckoclhpaaSetS
import Derived.Test.YtckfnbckoclhpaaBagAnchor
import Derived.WalkLawsBesides
import Derived.BigQuiet
import Derived.Deep.QuietTactic
set_option linter.unusedVariables false
namespace Go.Proofs.Ytckfnbckoclhpaa
open Go.RowKit Go.Sort

theorem eiStr : ElemI Try.prog 38 9 (.string ByteArray.empty) 1 16 := ⟨Try.underlying38, by kernel_rfl, rfl, by decide⟩

/-- the first k of a list turned by t -/
def rot (zs : List (List UInt8)) (t k : Nat) : List (List UInt8) := (List.range k).map fun i => zs.getD ((i + t) % zs.length) []
theorem rot_succ (zs : List (List UInt8)) (t k : Nat) : rot zs t (k + 1) = rot zs t k ++ [zs.getD ((k + t) % zs.length) []] := by
  unfold rot
  rw [List.range_succ, List.map_append]
  rfl
theorem mem_rot (zs : List (List UInt8)) (t : Nat) (h : 0 < zs.length) (x : List UInt8) : x ∈ zs ↔ x ∈ rot zs t zs.length := by
  unfold rot
  rw [List.mem_map]
  have ht := Nat.mod_lt t h
  constructor
  · intro hx
    obtain ⟨j, hj, rfl⟩ := List.getElem_of_mem hx
    have key : ∃ i, i < zs.length ∧ (i + t) % zs.length = j := by
      by_cases hc : t % zs.length ≤ j
      · refine ⟨j - t % zs.length, by omega, ?_⟩
        rw [← Nat.add_mod_mod, show j - t % zs.length + t % zs.length = j from by omega, Nat.mod_eq_of_lt hj]
      · refine ⟨j + zs.length - t % zs.length, by omega, ?_⟩
        rw [← Nat.add_mod_mod, show j + zs.length - t % zs.length + t % zs.length = j + zs.length from by omega, Nat.add_mod_right, Nat.mod_eq_of_lt hj]
    obtain ⟨i, hi, hij⟩ := key
    refine ⟨i, by rw [List.mem_range]; exact hi, ?_⟩
    rw [hij, List.getD_eq_getElem?_getD, List.getElem?_eq_getElem hj]
    rfl
  · rintro ⟨i, _, rfl⟩
    have hi := Nat.mod_lt (i + t) h
    rw [List.getD_eq_getElem?_getD, List.getElem?_eq_getElem hi]
    exact List.getElem_mem _

set_option maxHeartbeats 1600000 in
set_option maxRecDepth 100000 in
theorem words_walk (w : World) (A : Option Addr) (n c : Nat) (zs : List (List UInt8)) (t : Nat) (h : Sl w 1 A n c (svs zs)) (hn : n ≤ 30) (ht : t ≤ 9223372036854775807) (hall : ∀ z ∈ zs, z.length ≤ 9223372036854775807) :
    Calls Try.prog 4 #[.slice A n c, .int .i64 t] w fun e w' => e = .returned (.bool true) ∧ Pu w w' := by
  have hl : zs.length = n := by have := h.1; simpa using this
  have d1 : decide ((30 : Int) < n) = false := by simp; omega
  have d2 : decide ((t : Int) < 0) = false := by simp
  go_enter Try.func4, Try.ntmps4
  go_wp2_with fail
  refine (anchor_any _).mono ?_
  rintro e w1 ⟨rfl, H1⟩
  go_wp2_with fail
  have hA := Lib.hid hall
  clear hall
  go_loopw [5, 25] (fun v i wr => ∃ (k : Nat) (A' : Option Addr) (c' : Nat), k ≤ n ∧ i = .int .i64 k ∧ v = .slice A' k c' ∧ wr.ownsRow w.heap.size 9 1 (.slice A' k c') k (svs (rot zs t k)) ∧ Pu w wr) (fun _ i _ => n - (intOf i).toNat)
  case atStart => exact ⟨0, none, 0, Nat.zero_le _, rfl, rfl, World.ownsRow_nil _ _ _ _, H1⟩
  case round =>
    obtain ⟨k, A', c', hk, rfl, rfl, hown, hP⟩ := hrel
    by_cases hlt : k < n
    · obtain ⟨g, off, u, rfl, _, hu, hc⟩ := (h.pu hP).at_ hlt
      obtain rfl := svs_get (by omega) hu
      have hlz : zs[k].length ≤ 9223372036854775807 := hA.out _ (List.getElem_mem _)
      have hsz := hP.size
      clear hu
      generalize zs[k] = z at *
      have hq : (k + t) % n < n := Nat.mod_lt _ (by omega)
      obtain ⟨g2, off2, u2, hA2, _, hu2, hc2⟩ := (h.pu hP).at_ hq
      injection hA2 with hA2
      injection hA2 with e1 e2
      subst e1 e2
      obtain rfl := svs_get (by omega) hu2
      clear hu2
      have hrot := Lib.hid (rot_succ zs t k)
      have hz2 : zs.getD ((k + t) % n) [] = zs[(k + t) % n] := by rw [List.getD_eq_getElem?_getD, List.getElem?_eq_getElem (by omega)]; rfl
      have Hz2 := Lib.hid hz2
      clear hz2
      have hn0 : 1 ≤ n := by omega
      have hm0 : 0 ≤ (t : Int) % (n : Int) := Int.emod_nonneg _ (by omega)
      have hm1 : (t : Int) % (n : Int) < n := Int.emod_lt_of_pos _ (by omega)
      have hm2 : 0 ≤ ((k : Int) + (t : Int)) % (n : Int) := Int.emod_nonneg _ (by omega)
      have hm3 : ((k : Int) + (t : Int)) % (n : Int) < n := Int.emod_lt_of_pos _ (by omega)
      generalize zs[(k + t) % n] = y at *
      generalize hQ : (k + t) % n = Q at *
      by_cases hbig : 100 < z.length
      · go_wp2
        go_ret
        exact ⟨rfl, hP⟩
      · go_wp2_with (at_builtin; refine wpList_push eiStr rfl _ _ rfl #[.string ⟨y.toArray⟩] rfl (by simp [Value.oneCell']) rfl rfl hown (by simp [maxLen]; omega) (by omega) hsz ?_)
        intro A1 c1 w2 hown1 hg1
        have hP2 := pu_push hP hown (Nat.le_refl _) hg1
        have hrot2 : svs (rot zs t (k + 1)) = svs (rot zs t k) ++ [Value.string ⟨y.toArray⟩] := by
          rw [hrot.out, hl, hQ, Hz2.out, show svs (rot zs t k ++ [y]) = svs (rot zs t k) ++ svs [y] from List.map_append]
          rfl
        have Hr := Lib.hid hrot2
        clear hown hP hg1 hrot2 hQ hm2 hm3 hm0 hm1 hc hc2
        go_wp2
        go_roundw
        case rel => exact ⟨k + 1, A1, c1, by omega, by go_num, rfl, by rw [Hr.out]; simpa using hown1, hP2⟩
        case measure => simp [intOf]; omega
    · obtain rfl : k = n := by omega
      have hs2 := Sl.of_own hown
      clear hown
      go_wp2_with fail
      refine (of_str A k c zs _ (h.pu hP) (by omega)).mono ?_
      rintro e w2 ⟨A2, n2, rfl, hn2, hs3, h2⟩
      have P2 := hP.trans h2
      go_wp2_with fail
      refine (items_str A2 _ _ (normS zs) _ hs3 (by omega)).mono ?_
      rintro e w3 ⟨A3, c3, rfl, ho3, h3⟩
      have P3 := P2.trans h3
      have hi3 := Sl.of_own ho3
      go_wp2_with fail
      refine (of_str A' k c' (rot zs t k) _ ((hs2.pu h2).pu h3) (by omega)).mono ?_
      rintro e w4 ⟨A4, n4, rfl, hn4, hs4, h4⟩
      have P4 := P3.trans h4
      go_wp2_with fail
      refine (items_str A4 _ _ (normS (rot zs t k)) _ hs4 (by omega)).mono ?_
      rintro e w5 ⟨A5, c5, rfl, ho5, h5⟩
      have P5 := P4.trans h5
      have hi5 := Sl.of_own ho5
      have hi35 := (hi3.pu h4).pu h5
      have heq : normS (rot zs t k) = normS zs := by
        rcases Nat.eq_zero_or_pos k with h0 | h0
        · subst h0
          obtain rfl : zs = [] := List.eq_nil_of_length_eq_zero hl
          rfl
        · refine (normS_eq _ _ (fun x => ?_)).symm
          rw [← hl]
          exact mem_rot zs t (by omega) x
      rw [heq] at hi5 hs4
      have hl2 : n2 = (normS zs).length := by have := hs3.1; simp at this; omega
      have hl4 : n4 = n2 := by have := hs4.1; rw [hl2]; simp at this; omega
      subst hl4
      have Hl2 := Lib.hid hl2
      clear heq hl2 hs4 ho3 ho5 hs2 h2 h3 h4 h5 hP P2 P3 P4 hi3
      have hris := Lib.hid (normS_rising zs)
      have hmem := Lib.hid (mem_normS zs)
      have hsb : Sl w5 1 A k c (svs zs) := h.pu P5
      generalize hSS : normS zs = S at *
      go_wp2_with fail
      go_loopw [63] (fun i wr => ∃ j : Nat, j ≤ n4 ∧ i = .int .i64 j ∧ Pu w5 wr) (fun i _ => n4 - (intOf i).toNat)
      case atStart => exact ⟨0, Nat.zero_le _, rfl, Pu.refl _⟩
      case round =>
        obtain ⟨j, hj, rfl, hP⟩ := hrel
        by_cases hjn : j < n4
        · obtain ⟨g, off, u, rfl, _, hu, hc⟩ := (hi35.pu hP).at_ hjn
          obtain ⟨g', off', u', rfl, _, hu', hc'⟩ := (hi5.pu hP).at_ hjn
          have hjS : j < S.length := by have := Hl2.out; omega
          obtain rfl := svs_get hjS hu
          obtain rfl := svs_get hjS hu'
          clear hu hu'
          by_cases hj0 : j = 0
          · subst hj0
            generalize S[0] = z at *
            simp only [Nat.add_zero] at hc hc'
            go_wp2_with fail
            go_roundw
            case rel => exact ⟨0 + 1, by omega, by go_num, hP⟩
            case measure => simp [intOf]; omega
          · obtain ⟨i, rfl⟩ : ∃ i, j = i + 1 := ⟨j - 1, by omega⟩
            obtain ⟨g2, off2, u2, hA2, _, hu2, hc2⟩ := (hi35.pu hP).at_ (j := i) (by omega)
            injection hA2 with hA2
            injection hA2 with e1 e2
            subst e1 e2
            obtain rfl := svs_get (by omega) hu2
            clear hu2
            have hlt2 : S[i] < S[i + 1] := List.pairwise_iff_getElem.1 hris.out i (i + 1) (by omega) hjS (by omega)
            generalize S[i + 1] = z at *
            generalize S[i] = y at *
            have b1 : Op.bytesLess z y = false := by
              rw [bytesLess_eq, decide_eq_false_iff_not]
              exact fun h => List.lt_irrefl _ (List.lt_trans h hlt2)
            have b2 : (z == y) = false := by
              rw [beq_eq_false_iff_ne]
              intro e
              rw [e] at hlt2
              exact List.lt_irrefl _ hlt2
            clear hlt2
            go_wp2_with fail
            go_roundw
            case rel => exact ⟨i + 1 + 1, by omega, by go_num, hP⟩
            case measure => simp [intOf]; omega
        · go_wp2_with fail
          refine (of_str A k c zs _ (hsb.pu hP) (by omega)).mono ?_
          rintro e w6 ⟨A6, n6, rfl, hn6, hs6, h6⟩
          have P6 := hP.trans h6
          have hs7 := hs6.pu ((Pu.refl w6).alloc (Obj.cells #[Value.slice A6 n6 n6] 40))
          have hb7 : Blk (w6.alloc (Obj.cells #[Value.slice A6 n6 n6] 40)) w6.heap.size 40 #[Value.slice A6 n6 n6] := Blk.new _ _ _
          have P7 := P6.alloc (Obj.cells #[Value.slice A6 n6 n6] 40)
          have q7 : Pu (w6.alloc (Obj.cells #[Value.slice A6 n6 n6] 40)) (w6.alloc (Obj.cells #[Value.slice A6 n6 n6] 40)) := Pu.refl _
          have hle6 := P6.size
          clear hs6 hi35 hi5 hris Hl2 hs3
          go_wp2_with fail
          go_loopw [92] (fun i wt => ∃ j : Nat, j ≤ k ∧ i = .int .i64 j ∧ Pu (w6.alloc (Obj.cells #[Value.slice A6 n6 n6] 40)) wt) (fun i _ => k - (intOf i).toNat)
          case atStart => exact ⟨0, Nat.zero_le _, rfl, q7⟩
          case round =>
            obtain ⟨j, hj, rfl, hQ⟩ := hrel
            by_cases hjk : j < k
            · have hsw := hsb.pu (P7.trans hQ)
              obtain ⟨g, off, u, rfl, _, hu, hc⟩ := hsw.at_ hjk
              obtain rfl := svs_get (by omega) hu
              have hin : zs[j] ∈ normS zs := (mem_normS zs _).2 (List.getElem_mem _)
              have Hin := Lib.hid hin
              clear hu hin
              generalize zs[j] = z at *
              have cb : wr.cell? ⟨w6.heap.size, 0, none⟩ = some (.slice A6 n6 n6) := (hb7.pu hQ).cell 0
              go_wp2_with fail
              refine (has_str A6 _ _ (normS zs) z _ (hs7.pu hQ) (by omega) (normS_rising zs) Hin.out).mono ?_
              rintro e w8 ⟨rfl, h8⟩
              go_wp2_with fail
              go_roundw
              case rel => exact ⟨j + 1, by omega, by go_num, hQ.trans h8⟩
              case measure => simp [intOf]; omega
            · go_wp2
              go_ret
              exact ⟨rfl, P5.trans (P7.trans hQ)⟩

set_option maxHeartbeats 1600000 in
set_option maxRecDepth 100000 in
theorem words_big (w : World) (A : Option Addr) (n c : Nat) (t : Int) (hn : n ≤ 9223372036854775807) (hb : 30 < n ∨ t < 0) :
    Calls Try.prog 4 #[.slice A n c, .int .i64 t] w fun e w' => e = .returned (.bool true) ∧ Pu w w' := by
  rcases (show 30 < n ∨ (n ≤ 30 ∧ t < 0) by omega) with h | ⟨h, h1⟩
  all_goals
    clear hb
    go_enter Try.func4, Try.ntmps4
    go_wp2_with fail
    refine (anchor_any _).mono ?_
    rintro e w1 ⟨rfl, H1⟩
    go_wp2
    go_ret
    exact ⟨rfl, H1⟩
end Go.Proofs.Ytckfnbckoclhpaa
