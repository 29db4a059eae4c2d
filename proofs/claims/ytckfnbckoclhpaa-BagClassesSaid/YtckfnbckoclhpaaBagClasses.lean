/- BagClasses: every play of classes is the document's. -/
import Derived.Test.YtckfnbckoclhpaaBagAnchor
import Derived.Test.YtckfnbckoclhpaaCls3
set_option linter.unusedVariables false
namespace Go.Proofs.Ytckfnbckoclhpaa
open Go.RowKit

abbrev opCells (ops : List (Int × Int × Int)) : List Value := ops.flatMap fun o => [.int .i64 o.1, .int .i64 o.2.1, .int .i64 o.2.2]
theorem opCells_get (ops : List (Int × Int × Int)) : ∀ (j : Nat) (o : Int × Int × Int), ops[j]? = some o → (opCells ops)[j * 3]? = some (.int .i64 o.1) ∧ (opCells ops)[j * 3 + 1]? = some (.int .i64 o.2.1) ∧ (opCells ops)[j * 3 + 2]? = some (.int .i64 o.2.2) := by
  induction ops with
  | nil => intro j o h; simp at h
  | cons p ops ih =>
    intro j o h
    cases j with
    | zero =>
      simp at h
      subst h
      simp [opCells]
    | succ j =>
      have := ih j o (by simpa using h)
      have e : (j + 1) * 3 = j * 3 + 3 := by omega
      rw [e]
      simpa [opCells] using this
theorem ops_at {w : World} {A : Option Addr} {m c : Nat} {ops : List (Int × Int × Int)} (h : Sl w 3 A m c (opCells ops)) (hl : ops.length = m) {j : Nat} (hj : j < m) :
    ∃ b off k x y, A = some ⟨b, off, none⟩ ∧ b < w.heap.size ∧ w.cell? ⟨b, off + j * 3, none⟩ = some (.int .i64 k) ∧ w.cell? ⟨b, off + j * 3 + 1, none⟩ = some (.int .i64 x) ∧ w.cell? ⟨b, off + j * 3 + 2, none⟩ = some (.int .i64 y) := by
  obtain ⟨b, off, rfl, hb, hc⟩ := h.2.2 (by omega)
  obtain ⟨h1, h2, h3⟩ := opCells_get ops j ops[j] (List.getElem?_eq_getElem (by omega))
  exact ⟨b, off, _, _, _, rfl, hb, hc _ _ h1, hc _ _ h2, hc _ _ h3⟩

set_option maxHeartbeats 4000000 in
set_option maxRecDepth 100000 in
theorem classes_walk (A : Option Addr) (m c : Nat) (ops : List (Int × Int × Int)) (n : Nat) (w : World) (hn : n ≤ 60) (hm : m ≤ 100) (hl : ops.length = m)
    (hs : Sl w 3 A m c (opCells ops)) :
    Calls Try.prog 3 #[.int .i64 n, .slice A m c] w fun e w' => e = .returned (.bool true) ∧ Pu w w' := by
  have d1 : decide ((n : Int) > 60) = false := by simp; omega
  have d2 : decide ((100 : Int) < m) = false := by simp; omega
  have d3 : decide ((n : Int) < 0) = false := by simp
  have d4 : decide ((65536 : Int) < n) = false := by simp; omega
  go_enter Try.func3, Try.ntmps3
  go_wp2_with fail
  refine (anchor_any _).mono ?_
  rintro e w1 ⟨rfl, H1⟩
  go_wp2_with fail
  refine (new_in n _ (by omega)).mono ?_
  rintro e w2 ⟨b, rfl, hc2, h2⟩
  have H2 := H1.trans h2
  go_wp2_with fail
  have hcE := hc2
  go_loopw [7, 54] (fun l v wr => ∃ (k : Nat) (A : Option Addr) (c : Nat), k ≤ n ∧ v = .int .i64 k ∧ l = .slice A k c ∧ wr.ownsRow w2.heap.size 3 1 (.slice A k c) k (ivs ((List.range k).map Int.ofNat)) ∧ Pu w2 wr) (fun _ v _ => n - (intOf v).toNat)
  case atStart => exact ⟨0, none, 0, Nat.zero_le _, rfl, rfl, World.ownsRow_nil _ _ _ _, Pu.refl _⟩
  case round =>
    obtain ⟨k, A', c', hk, rfl, rfl, hown, hP⟩ := hrel
    by_cases hlt : k < n
    · have hsz := hP.size
      go_wp2_with (at_builtin; refine wpList_push eiInt rfl _ _ rfl #[.int .i64 k] rfl (by simp [Value.oneCell']) rfl rfl hown (by simp [maxLen]; omega) (by omega) hsz ?_)
      intro A1 c1 w3 hown1 hg1
      have hP1 := pu_push hP hown (by omega) hg1
      clear hown hP hg1
      go_wp2
      go_roundw
      case rel => exact ⟨k + 1, A1, c1, by omega, by go_num, rfl, by
        rw [List.range_succ, List.map_append]
        simpa using hown1, hP1⟩
      case measure => simp [intOf]; omega
    · obtain rfl : k = n := by omega
      have hc3 := hc2.pu hP
      have h0 : 0 < k → ∃ g ds, A' = some ⟨g, 0, none⟩ ∧ w2.heap.size ≤ g ∧ Blk wr g 3 ds ∧ Rd ds k (rt id) := by
        intro hk
        rcases hown.2 with ⟨hv, h0⟩ | ⟨g, cap, cur, hv, hbase, hbk, h1, h2, h3, h4⟩
        · omega
        · injection hv with hA _ hc
          subst hA hc
          refine ⟨g, cur, rfl, hbase, hbk, fun i hi => ?_⟩
          have h5 : (cur.toList.take (k * 1))[i]? = (ivs ((List.range k).map Int.ofNat))[i]? := by rw [h4]
          rw [List.getElem?_take_of_lt (by omega), Array.getElem?_toList] at h5
          rw [h5, rt_fix rfl]
          simp [hi]
      have hPw := H2.trans hP
      have hle2 := h2.size
      clear hown hP hc2 hcE h2 H2
      go_wp2_with fail
      go_loopw [9, 65] (fun cv v ws => ∃ (j : Nat) (f : Nat → Nat) (cnt : Int), j ≤ m ∧ v = .int .i64 j ∧ cv = .int .i64 cnt ∧ (k : Int) - j ≤ cnt ∧ cnt ≤ k ∧ Cls w1.heap.size w2.heap.size ws b k f cnt ∧ (0 < k → ∃ g ds, A' = some ⟨g, 0, none⟩ ∧ w2.heap.size ≤ g ∧ Blk ws g 3 ds ∧ Rd ds k (rt f)) ∧ Pu w ws) (fun _ v _ => m - (intOf v).toNat)
      case atStart => exact ⟨0, id, k, Nat.zero_le _, rfl, rfl, by omega, by omega, hc3, h0, hPw⟩
      case round =>
        obtain ⟨j, f, cnt, hj, rfl, rfl, hc1, hc2, hcl, hg, hPs⟩ := hrel
        by_cases hjm : j < m
        · obtain ⟨bo, off, kd, x, y, rfl, hbo, o0, o1, o2⟩ := ops_at (hs.pu hPs) hl hjm
          by_cases hin : 0 ≤ x ∧ x < k ∧ 0 ≤ y ∧ y < k
          · obtain ⟨hx0, hx1, hy0, hy1⟩ := hin
            obtain ⟨x, rfl⟩ := Int.eq_ofNat_of_zero_le hx0
            obtain ⟨y, rfl⟩ := Int.eq_ofNat_of_zero_le hy0
            have hx2 : x < k := by omega
            have hy2 : y < k := by omega
            obtain ⟨g, ds, hA, hgE, hgb, hgr⟩ := hg (by omega)
            clear hg
            subst hA
            have hbo2 := hPs.alloc (Obj.cells #[.int .i64 kd, .int .i64 x, .int .i64 y] 30)
            have hle1 := H1.size
            have hsz : w2.heap.size ≤ wr.heap.size := Nat.le_trans hgE (Nat.le_of_lt hgb.lt)
            have hal : Pu wr (wr.alloc (Obj.cells #[.int .i64 kd, .int .i64 x, .int .i64 y] 30)) := (Pu.refl wr).alloc _
            have hbO0 : Blk (wr.alloc (Obj.cells #[.int .i64 kd, .int .i64 x, .int .i64 y] 30)) wr.heap.size 30 #[.int .i64 kd, .int .i64 x, .int .i64 y] := Blk.new _ _ _
            go_wp2_with fail
            refine (join_in _ _ b k f cnt x y _ (by omega) (by omega) (by omega) (hcl.pu hal) hx2 hy2).mono ?_
            rintro e w3 ⟨rfl, f3, hcl3, hr3, hf3⟩
            have hbO := hbO0.fr hf3 (by omega)
            have hgb3 := (hgb.pu hal).fr hf3 (by omega)
            have hP3 : Pu w w3 := hbo2.step hf3 (fun i hi => by omega)
            have q1 : w3.cell? ⟨wr.heap.size, 1, none⟩ = some (.int .i64 x) := hbO.cell 1
            have q2 : w3.cell? ⟨wr.heap.size, 2, none⟩ = some (.int .i64 y) := hbO.cell 2
            have R3 := Lib.hid hr3
            have R4 := Lib.hid hgr
            have hlt := Lib.hid (fun i => rt_le hcl.le i)
            clear hr3 hgr hbO0 hbo2 o0 o1 o2 hgb hcl hf3 hbO hal
            go_wp2_with fail
            refine (refJoin_any g k c' ds (rt f) x y _ (by omega) hx2 hy2 (fun i hi => Nat.lt_of_le_of_lt (hlt.out i) hi) hgb3 R4.out).mono ?_
            rintro e w4 ⟨rfl, ds4, hgb4, hgr4, hf4⟩
            have hcl4 := hcl3.fr hf4 (fun i _ hi => by omega)
            have hP4 : Pu w w4 := hP3.step hf4 (fun i hi => by omega)
            have R4' := Lib.hid hgr4
            clear hgr4 hgb3 q1 q2 hP3 hcl3 hf4
            by_cases he : rt f x = rt f y
            · rw [jNe_eq he]
              rw [jCnt_eq he] at hcl4
              have He := Lib.hid he
              clear he
              go_wp2_with fail
              refine (count_any _ _ b k f3 _ _ hcl4).mono ?_
              rintro e w5 ⟨rfl, rfl⟩
              go_wp2
              go_roundw
              case rel => exact ⟨j + 1, f3, _, by omega, by go_num, rfl, by omega, by omega, hcl4, fun _ => ⟨g, ds4, rfl, hgE, hgb4, R4'.out.congr (fun i _ => by rw [R3.out])⟩, hP4⟩
              case measure => simp [intOf]; omega
            · rw [jNe_ne he]
              rw [jCnt_ne he] at hcl4
              have He := Lib.hid he
              clear he
              go_wp2_with fail
              refine (count_any _ _ b k f3 _ _ hcl4).mono ?_
              rintro e w5 ⟨rfl, rfl⟩
              go_wp2
              go_roundw
              case rel => exact ⟨j + 1, f3, _, by omega, by go_num, rfl, by omega, by omega, hcl4, fun _ => ⟨g, ds4, rfl, hgE, hgb4, R4'.out.congr (fun i _ => by rw [R3.out])⟩, hP4⟩
              case measure => simp [intOf]; omega
          · have hal : Pu wr (wr.alloc (Obj.cells #[.int .i64 kd, .int .i64 x, .int .i64 y] 30)) := (Pu.refl wr).alloc _
            have hbO : Blk (wr.alloc (Obj.cells #[.int .i64 kd, .int .i64 x, .int .i64 y] 30)) wr.heap.size 30 #[.int .i64 kd, .int .i64 x, .int .i64 y] := Blk.new _ _ _
            have hP3 := hPs.trans hal
            have hcl3 := hcl.pu hal
            have hg3 : 0 < k → ∃ g ds, A' = some ⟨g, 0, none⟩ ∧ w2.heap.size ≤ g ∧ Blk (wr.alloc (Obj.cells #[.int .i64 kd, .int .i64 x, .int .i64 y] 30)) g 3 ds ∧ Rd ds k (rt f) := fun h => by
              obtain ⟨g, ds, e1, e2, e3, e4⟩ := hg h
              exact ⟨g, ds, e1, e2, e3.pu hal, e4⟩
            have hjo := join_out _ _ b k f cnt x y _ (by omega) hcl3 hin
            have hco := count_any _ _ b k f _ _ hcl3
            have Hjo := Lib.hid hjo
            have Hco := Lib.hid hco
            clear hg hcl hal hPs hjo hco
            rcases (show x < 0 ∨ (0 ≤ x ∧ k ≤ x) ∨ (0 ≤ x ∧ x < k ∧ y < 0) ∨ (0 ≤ x ∧ x < k ∧ 0 ≤ y ∧ k ≤ y) by omega) with h | ⟨h, h1⟩ | ⟨h, h1, h2⟩ | ⟨h, h1, h2, h3⟩
            all_goals
              clear hin
              go_wp2_with fail
              refine (Calls.mono Hjo.out) ?_
              rintro e w3 ⟨rfl, rfl⟩
              go_wp2_with fail
              refine (Calls.mono Hco.out) ?_
              rintro e w5 ⟨rfl, rfl⟩
              go_wp2
              go_roundw
              case rel => exact ⟨j + 1, f, _, by omega, by go_num, rfl, by omega, by omega, hcl3, hg3, hP3⟩
              case measure => simp [intOf]; omega
        · obtain rfl : j = m := by omega
          have hle1 := H1.size
          clear hc3 h0 hPw hc1 hc2
          go_wp2_with fail
          go_loopw [132] (fun v ws => ∃ (i : Nat) (f : Nat → Nat), i ≤ k ∧ v = .int .i64 i ∧ Cls w1.heap.size w2.heap.size ws b k f cnt ∧ (0 < k → ∃ g ds, A' = some ⟨g, 0, none⟩ ∧ w2.heap.size ≤ g ∧ Blk ws g 3 ds ∧ Rd ds k (rt f)) ∧ Pu w ws) (fun v _ => k - (intOf v).toNat)
          case atStart => exact ⟨0, f, Nat.zero_le _, rfl, hcl, hg, hPs⟩
          case round =>
            clear hcl hg hPs
            obtain ⟨i, f, hi, rfl, hcl, hg, hPs⟩ := hrel
            by_cases hik : i < k
            · obtain ⟨g, ds, hA, hgE, hgb, hgr⟩ := hg (by omega)
              clear hg
              subst hA
              have hgs := hgb.lt
              go_wp2_with fail
              refine (find_in _ _ b k f cnt i _ (by omega) hcl hik).mono ?_
              rintro e w3 ⟨rfl, f3, hcl3, hr3, hf3⟩
              have hgb3 := hgb.fr hf3 (by omega)
              have q : w3.cell? ⟨g, i, none⟩ = some (.int .i64 (rt f i)) := (hgb3.cell i).trans (hgr i hik)
              have hP3 := hPs.step hf3 (fun i hi => by omega)
              have R3 := Lib.hid hr3
              clear hr3 hcl hPs hf3
              go_wp2
              go_roundw
              case rel => exact ⟨i + 1, f3, by omega, by go_num, hcl3, fun _ => ⟨g, ds, rfl, hgE, hgb3, hgr.congr (fun i _ => (R3.out i).symm)⟩, hP3⟩
              case measure => simp [intOf]; omega
            · obtain rfl : i = k := by omega
              go_wp2_with fail
              refine (find_out _ _ b i f cnt i _ (by omega) hcl (.inr (Int.le_refl _))).mono ?_
              rintro e w3 ⟨rfl, rfl⟩
              go_wp2_with fail
              refine (find_out _ _ b i f cnt (-1) _ (by omega) hcl (.inl (by omega))).mono ?_
              rintro e w3 ⟨rfl, rfl⟩
              go_wp2
              go_ret
              exact ⟨rfl, hPs⟩

set_option maxHeartbeats 4000000 in
set_option maxRecDepth 100000 in
/-- many steps, or a number of classes that is not asked -/
theorem classes_big (A : Option Addr) (m c : Nat) (n : Int) (w : World) (hm : m ≤ 9223372036854775807) (hn : (60 < n ∧ n ≤ 65536) ∨ 100 < m) :
    Calls Try.prog 3 #[.int .i64 n, .slice A m c] w fun e w' => e = .returned (.bool true) ∧ Pu w w' := by
  by_cases h1 : 60 < n ∧ n ≤ 65536
  · obtain ⟨h1, h2⟩ := h1
    go_enter Try.func3, Try.ntmps3
    go_wp2_with fail
    refine (anchor_any _).mono ?_
    rintro e w1 ⟨rfl, H1⟩
    go_wp2
    go_ret
    exact ⟨rfl, H1⟩
  · have h3 : 100 < m := by omega
    rcases (show n ≤ 60 ∨ (60 < n ∧ 65536 < n) by omega) with h4 | ⟨h4, h5⟩
    all_goals
      clear hn h1
      go_enter Try.func3, Try.ntmps3
      go_wp2_with fail
      refine (anchor_any _).mono ?_
      rintro e w1 ⟨rfl, H1⟩
      go_wp2
      go_ret
      exact ⟨rfl, H1⟩

set_option maxHeartbeats 4000000 in
set_option maxRecDepth 100000 in
theorem classes_none (A : Option Addr) (m c : Nat) (n : Int) (w : World) (hm : m ≤ 100) (hn : n < 0 ∨ 65536 < n) :
    Calls Try.prog 3 #[.int .i64 n, .slice A m c] w fun e w' => e = .returned (.bool true) ∧ Pu w w' := by
  rcases (show n < 0 ∨ (60 < n ∧ 0 ≤ n ∧ 65536 < n) by omega) with h | ⟨h, h1, h2⟩
  all_goals
    go_enter Try.func3, Try.ntmps3
    go_wp2_with fail
    refine (anchor_any _).mono ?_
    rintro e w1 ⟨rfl, H1⟩
    go_wp2_with fail
    refine (new_out n _ hn).mono ?_
    rintro e w2 ⟨rfl, rfl⟩
    go_wp2
    go_ret
    exact ⟨rfl, H1⟩
end Go.Proofs.Ytckfnbckoclhpaa
