/- BagRows: every play of a row, from both ends, is a list's. -/
import Derived.Test.YtckfnbckoclhpaaBagAnchor
import Derived.Test.YtckfnbckoclhpaaRefI
import Derived.Test.YtckfnbckoclhpaaRing3
import Derived.Test.YtckfnbckoclhpaaOffs
import Derived.Test.YtckfnbckoclhpaaOps
set_option linter.unusedVariables false
namespace Go.Proofs.Ytckfnbckoclhpaa
open Go.RowKit

theorem ints_one (l : List Int) : ∀ u ∈ ivs l, u.oneCell' = true := by
  intro u hu
  simp only [ivs, List.mem_map] at hu
  obtain ⟨z, _, rfl⟩ := hu
  rfl

theorem own_empty' (w : World) (e : TypeId) (cs : Array Value) (h : cs.size = 0) {base : Nat} (hb : base ≤ w.heap.size) : (w.alloc (.cells cs e)).ownsRow base e 1 (.slice (some ⟨w.heap.size, 0, none⟩) 0 0) 0 [] := by
  refine ⟨rfl, .inr ⟨w.heap.size, 0, cs, rfl, hb, heap_alloc_new w _, Nat.le_refl _, Nat.zero_le _, by omega, ?_⟩⟩
  simp

theorem snoc_cases (l : List Int) : l = [] ∨ ∃ t z, l = t ++ [z] := by
  rcases List.eq_nil_or_concat l with h | ⟨t, z, h⟩
  · exact .inl h
  · exact .inr ⟨t, z, by simpa using h⟩

set_option maxHeartbeats 16000000 in
set_option maxRecDepth 100000 in
theorem rows_walk (A B : Option Addr) (n c m d : Nat) (zs : List Int) (ops : List (Int × Int × Int)) (w : World) (hs : Sl w 1 A n c (ivs zs)) (hn : n ≤ 30) (hm : m ≤ 100) (hl : ops.length = m)
    (ho : Sl w 3 B m d (opCells ops)) :
    Calls Try.prog 5 #[.slice A n c, .slice B m d] w fun e w' => e = .returned (.bool true) ∧ Pu w w' := by
  have d1 : decide ((30 : Int) < n) = false := by simp; omega
  have d2 : decide ((100 : Int) < m) = false := by simp; omega
  have d3 : decide ((n : Int) > 30) = false := by simp; omega
  have d4 : decide ((m : Int) > 100) = false := by simp; omega
  have hzl : zs.length = n := by have := hs.1; simpa using this
  go_enter Try.func5, Try.ntmps5
  go_wp2_with fail
  refine (anchor_any _).mono ?_
  rintro e w1 ⟨rfl, H1⟩
  go_wp2_with fail
  refine (newrow_any zs A n c _ (hs.pu H1) (by omega)).mono ?_
  rintro e w2 ⟨b, g, rfl, hb2, hg2, hgl2, hR2, h2⟩
  have H2 := H1.trans h2
  have hsz1 := H1.size
  have hsz2 := H2.size
  have hbl2 := hR2.count.2.2.2
  go_wp2_with (at_builtin; refine wpList_app eiInt rfl (.tmp 25) (.tmp 26) rfl rfl rfl (own_empty' w2 _ _ (by rfl) (Nat.le_refl _)) ((hs.pu H2).pu ((Pu.refl _).alloc _)) (ints_one _) (by simp [maxLen]; omega) (by omega) (by simp) ?_)
  intro A3 c3 w3 ho3 hg3
  have hP23 : Pu w2 w3 := pu_push ((Pu.refl w2).alloc _) (own_empty' w2 _ #[] rfl (Nat.le_refl _)) (Nat.le_refl _) hg3
  have hP3 := H2.trans hP23
  have hO3 : OffS w3 w2.heap.size A3 n c3 zs := OffS.of_own ho3
  have hR3 := hR2.pu hP23
  have hsz3 := hP23.size
  have hsep3 : ∀ y, A3 = some y → y.block ≠ b ∧ y.block ≠ g := fun y e => by
    have := (hO3.2.2.2.1 y e).1
    omega
  have hO3' : OffS w3 w.heap.size A3 n c3 zs := ⟨hO3.1, hO3.2.1, hO3.2.2.1, fun y e => ⟨Nat.le_trans hsz2 (hO3.2.2.2.1 y e).1, (hO3.2.2.2.1 y e).2⟩, hO3.2.2.2.2⟩
  clear hO3 ho3 hg3 hR2 hs
  go_wp2_with fail
  go_loopw [6, 30] (fun lv v ws => ∃ (j : Nat) (Al : Option Addr) (nl cl : Nat) (l : List Int) (g : Nat), j ≤ m ∧ v = .int .i64 j ∧ lv = .slice Al nl cl ∧ l.length ≤ 30 + 2 * j ∧ OffS ws w.heap.size Al nl cl l ∧ RowR ws b g l ∧ w.heap.size ≤ g ∧ g < ws.heap.size ∧ (∀ y, Al = some y → y.block ≠ b ∧ y.block ≠ g) ∧ Pu w ws) (fun _ v _ => m - (intOf v).toNat)
  case atStart => exact ⟨0, A3, n, c3, zs, g, Nat.zero_le _, rfl, rfl, by omega, hO3', hR3, by omega, by omega, hsep3, hP3⟩
  case round =>
    clear hsep3 hO3' hR3
    have hbw : w.heap.size ≤ b := by omega
    have hbw3 : b < w3.heap.size := by omega
    clear hgl2 hg2 hb2
    obtain ⟨j, Al, nl, cl, l, g, hj, rfl, rfl, hll, hO, hR, hgw, hgs, hsep, hPs⟩ := hrel
    by_cases hjm : j < m
    · obtain ⟨bo, off, kd, x, y, rfl, hbo, o0, o1, o2⟩ := ops_at (ho.pu hPs) hl hjm
      have hal : Pu wr (wr.alloc (Obj.cells #[.int .i64 kd, .int .i64 x, .int .i64 y] 30)) := (Pu.refl wr).alloc _
      have hbO : Blk (wr.alloc (Obj.cells #[.int .i64 kd, .int .i64 x, .int .i64 y] 30)) wr.heap.size 30 #[.int .i64 kd, .int .i64 x, .int .i64 y] := Blk.new _ _ _
      have hP4 := hPs.trans hal
      have hO4 := hO.pu hal
      have hR4 := hR.pu hal
      have hbr := hR.count.2.2.2
      have enl : l.length = nl := hO.1
      have hgs4 : g < (wr.alloc (Obj.cells #[.int .i64 kd, .int .i64 x, .int .i64 y] 30)).heap.size := by simp; omega
      have hsz4 : wr.heap.size ≤ (wr.alloc (Obj.cells #[.int .i64 kd, .int .i64 x, .int .i64 y] 30)).heap.size := by simp
      have Hsep := Lib.hid hsep
      have hAlt : ∀ z, Al = some z → w.heap.size ≤ z.block ∧ z.block < wr.heap.size := fun z e => ⟨(hO.2.2.2.1 z e).1, (hO.2.2.2.1 z e).2.2⟩
      have HAlt := Lib.hid hAlt
      clear hsep hAlt hO hR hPs hal
      by_cases k1 : kd = 1
      · subst k1
        have ea : (wr.alloc (Obj.cells #[.int .i64 1, .int .i64 x, .int .i64 y] 30)).heap.size = wr.heap.size + 1 := by simp
        have hs4 := Sl.new (wr.alloc (Obj.cells #[.int .i64 1, .int .i64 x, .int .i64 y] 30)) 3 #[.int .i64 x, .int .i64 y] 1 2 2 rfl (Nat.le_refl _)
        rw [ea] at hs4
        have hgw0 : g < (wr.alloc (Obj.cells #[.int .i64 1, .int .i64 x, .int .i64 y] 30)).heap.size := hgs4
        have hbO2 := hbO.pu ((Pu.refl _).alloc (.cells #[.int .i64 x, .int .i64 y] 3))
        have hO42 := hO4.pu ((Pu.refl _).alloc (.cells #[.int .i64 x, .int .i64 y] 3))
        have hR42 := hR4.pu ((Pu.refl _).alloc (.cells #[.int .i64 x, .int .i64 y] 3))
        have hP42 := hP4.alloc (.cells #[.int .i64 x, .int .i64 y] 3)
        have hsz42 : wr.heap.size + 1 ≤ ((wr.alloc (Obj.cells #[.int .i64 1, .int .i64 x, .int .i64 y] 30)).alloc (.cells #[.int .i64 x, .int .i64 y] 3)).heap.size := by simp
        go_wp2_with fail
        refine (rpush_any b g l [x, y] _ 2 2 _ hR42 hs4 (by omega) (fun _ k off e => by
          injection e with e
          injection e with e1
          omega)).mono ?_
        rintro e v3 ⟨rfl, g5, hg5, hR5, hF5⟩
        have hbO3 := hbO2.fr hF5 (by rintro (e | e) <;> omega)
        have hO3 := hO42.fr hF5 (fun z e h => by
          have := Hsep.out z e
          rcases h with h | h
          · exact this.1 h
          · exact this.2 h)
        have q1 : v3.cell? ⟨wr.heap.size, 1, none⟩ = some (.int .i64 x) := hbO3.cell 1
        have q2 : v3.cell? ⟨wr.heap.size, 2, none⟩ = some (.int .i64 y) := hbO3.cell 2
        have hP53 : Pu w v3 := hP42.step hF5 (fun i hi => by rcases hi with e | e <;> omega)
        have hsz5 := hF5.size
        have hb53 : b < v3.heap.size := by omega
        have hg53 : g5 < v3.heap.size ∧ w.heap.size ≤ g5 ∧ (g5 = g ∨ wr.heap.size ≤ g5) := by
          rcases hg5 with e | e
          · rw [e]; exact ⟨by omega, hgw, .inl rfl⟩
          · exact ⟨e.2, by omega, .inr (by omega)⟩
        clear ho o0 o1 o2 hg5 hbO hbO2 hs4 hO4 hR4 hR42 hO42 hP4 hP42 hF5 hbO3
        go_wp2_with (at_builtin; go_loud (refine wpList_offs (m := 2) eiInt rfl (.tmp 45) (.tmp 50) rfl [x, y] _ rfl rfl (by decide) rfl rfl hO3 (by simp [maxLen]; omega) (by omega) hP53.size ?_))
        intro A5 c5 w5 hO5 hF6 hA5
        have hR5 := hR5.fr hF6 (by rintro ⟨z, e, h⟩; exact (Hsep.out z e).1 h) (by
          rintro ⟨z, e, h⟩
          have h1 := (Hsep.out z e).2
          have h2 := HAlt.out z e
          rcases hg53.2.2 with e1 | e1
          · rw [e1] at h; exact h1 h
          · omega)
        have hP5 : Pu w w5 := hP53.step hF6 (fun i hi => by
          obtain ⟨z, e, h⟩ := hi
          rw [← h]
          exact (HAlt.out z e).1)
        have hgs5 : g5 < w5.heap.size := Nat.lt_of_lt_of_le hg53.1 hF6.size
        have hgb5 := hg53.2.1
        have hsep5 : ∀ y, A5 = some y → y.block ≠ b ∧ y.block ≠ g5 := fun y e => by
          rcases hA5 y e with ⟨z, e1, e2⟩ | h
          · have h1 := Hsep.out z e1
            have h2 := HAlt.out z e1
            rw [← e2]
            refine ⟨h1.1, ?_⟩
            rcases hg53.2.2 with e3 | e3
            · rw [e3]; exact h1.2
            · omega
          · omega
        have hl5 : (l ++ [x, y]).length = nl + 2 := by simp [enl]
        have hll5 : (l ++ [x, y]).length ≤ 30 + 2 * (j + 1) := by rw [hl5]; omega
        generalize nl + 2 = n5 at *
        generalize l ++ [x, y] = l5 at *
        clear hll enl hO3 q1 q2 hA5 hF6 hP53 hg53
        have hll := hll5
        subst hl5
        have HS5 := Lib.hid hsep5
        clear hsep5
        go_wp2_with fail
        refine (rlen_any b g5 l5 _ hR5).mono ?_
        rintro e v6 ⟨rfl, rfl⟩
        go_wp2_with fail
        refine (rall_any b g5 l5 _ hR5).mono ?_
        rintro e v6 ⟨A6, n6, c6, rfl, ho6, hP6⟩
        have e6 : n6 = l5.length := by have := ho6.1; simp [ivs] at this; omega
        subst e6
        have hP56 := hP5.trans hP6
        go_wp2_with fail
        refine (same_int A6 _ _ c6 _ l5 _ (Sl.of_own ho6) (hO5.pu hP6).sl (by omega)).mono ?_
        rintro e v7 ⟨rfl, h7⟩
        have hP7 := hP6.trans h7
        go_wp2
        go_roundw
        case rel => exact ⟨j + 1, _, _, _, l5, g5, by omega, by go_num, rfl, by omega, hO5.pu hP7, hR5.pu hP7, hgb5, Nat.lt_of_lt_of_le hgs5 hP7.size, HS5.out, hP56.trans h7⟩
        case measure => simp [intOf]; omega
      · by_cases k2 : kd = 2
        · subst k2
          rcases l with _ | ⟨z, t⟩
          · have en : nl = 0 := by simpa using enl.symm
            subst en
            clear enl
            go_wp2_with fail
            refine (rpop_nil b g _ hR4).mono ?_
            rintro e v3 ⟨rfl, rfl⟩
            have hO5 := hO4
            have hR5 := hR4
            have hP5 := hP4
            have hgs5 := hgs4
            have hgb5 := hgw
            have hsep5 := Hsep.out
            clear hO4 hR4 hP4
            have HS5 := Lib.hid hsep5
            clear hsep5
            go_wp2_with fail
            refine (rlen_any b g [] _ hR5).mono ?_
            rintro e v6 ⟨rfl, rfl⟩
            go_wp2_with fail
            refine (rall_any b g [] _ hR5).mono ?_
            rintro e v6 ⟨A6, n6, c6, rfl, ho6, hP6⟩
            have e6 : n6 = 0 := by have := ho6.1; simp [ivs] at this; omega
            subst e6
            have hP56 := hP5.trans hP6
            go_wp2_with fail
            refine (same_int A6 _ _ c6 _ [] _ (Sl.of_own ho6) (hO5.pu hP6).sl (by omega)).mono ?_
            rintro e v7 ⟨rfl, h7⟩
            have hP7 := hP6.trans h7
            go_wp2
            go_roundw
            case rel => exact ⟨j + 1, _, _, _, [], g, by omega, by go_num, rfl, by omega, hO5.pu hP7, hR5.pu hP7, hgb5, Nat.lt_of_lt_of_le hgs5 hP7.size, HS5.out, hP56.trans h7⟩
            case measure => simp [intOf]; omega
          · have en : nl = t.length + 1 := by simpa using enl.symm
            subst en
            simp only [List.length_cons] at hll
            clear enl
            go_wp2_with fail
            refine (rpop_cons b g z t _ hR4).mono ?_
            rintro e v3 ⟨rfl, hR5, hF5⟩
            have hO3 := hO4.fr hF5 (fun z e h => by
              have := Hsep.out z e
              rcases h with h | h
              · exact this.1 h
              · exact this.2 h)
            have hP5 : Pu w v3 := hP4.step hF5 (fun i hi => by rcases hi with e | e <;> omega)
            have hgs5 := Nat.lt_of_lt_of_le hgs4 hF5.size
            have hgb5 := hgw
            obtain ⟨h, off3, ds, hA3, hb3, hs3, hr3⟩ := hO3.2.2.2.2 (by have := hO3.2.1; omega)
            have hcl : t.length + 1 ≤ cl := hO3.2.1
            have hsep := Hsep.out
            subst hA3
            have hsepl := hsep _ rfl
            have q0 : v3.cell? ⟨h, off3, none⟩ = some (.int .i64 z) := (hb3.cell off3).trans (by have := hr3 0 z rfl; simpa using this)
            obtain ⟨A5, hA5, hO5, hsub⟩ := hO3.tail
            rw [Nat.add_sub_cancel] at hO5
            clear hb3 hr3 hs3 hO3 hO4 hR4 hP4 hF5 hsub hsep
            by_cases hc1 : cl = 1
            · subst hc1
              simp [sliced] at hA5
              subst hA5
              have hsep5 : ∀ y, some (⟨h, off3, none⟩ : Addr) = some y → y.block ≠ b ∧ y.block ≠ g := fun y e => by
                injection e with e
                rw [← e]
                exact hsepl
              obtain rfl : t = [] := List.eq_nil_of_length_eq_zero (by omega)
              change OffS v3 w.heap.size (some ⟨h, off3, none⟩) 0 0 [] at hO5
              have HS5 := Lib.hid hsep5
              clear hsep5
              go_wp2_with fail
              refine (rlen_any b g [] _ hR5).mono ?_
              rintro e v6 ⟨rfl, rfl⟩
              go_wp2_with fail
              refine (rall_any b g [] _ hR5).mono ?_
              rintro e v6 ⟨A6, n6, c6, rfl, ho6, hP6⟩
              have e6 : n6 = 0 := by have := ho6.1; simp [ivs] at this; omega
              subst e6
              have hP56 := hP5.trans hP6
              go_wp2_with fail
              refine (same_int A6 _ _ c6 _ [] _ (Sl.of_own ho6) (hO5.pu hP6).sl (by omega)).mono ?_
              rintro e v7 ⟨rfl, h7⟩
              have hP7 := hP6.trans h7
              go_wp2
              go_roundw
              case rel => exact ⟨j + 1, _, _, _, [], g, by omega, by go_num, rfl, by omega, hO5.pu hP7, hR5.pu hP7, hgb5, Nat.lt_of_lt_of_le hgs5 hP7.size, HS5.out, hP56.trans h7⟩
              case measure => simp [intOf]; omega
            · simp [sliced, hc1, Addr.add] at hA5
              subst hA5
              have hsep5 : ∀ y, some (⟨h, off3 + 1, none⟩ : Addr) = some y → y.block ≠ b ∧ y.block ≠ g := fun y e => by
                injection e with e
                rw [← e]
                exact hsepl
              have HS5 := Lib.hid hsep5
              clear hsep5
              go_wp2_with fail
              refine (rlen_any b g t _ hR5).mono ?_
              rintro e v6 ⟨rfl, rfl⟩
              go_wp2_with fail
              refine (rall_any b g t _ hR5).mono ?_
              rintro e v6 ⟨A6, n6, c6, rfl, ho6, hP6⟩
              have e6 : n6 = t.length := by have := ho6.1; simp [ivs] at this; omega
              subst e6
              have hP56 := hP5.trans hP6
              go_wp2_with fail
              refine (same_int A6 _ _ c6 _ t _ (Sl.of_own ho6) (hO5.pu hP6).sl (by omega)).mono ?_
              rintro e v7 ⟨rfl, h7⟩
              have hP7 := hP6.trans h7
              go_wp2
              go_roundw
              case rel => exact ⟨j + 1, _, _, _, t, g, by omega, by go_num, rfl, by omega, hO5.pu hP7, hR5.pu hP7, hgb5, Nat.lt_of_lt_of_le hgs5 hP7.size, HS5.out, hP56.trans h7⟩
              case measure => simp [intOf]; omega
        · by_cases k3 : kd = 3
          · subst k3
            rcases snoc_cases l with rfl | ⟨t, z, rfl⟩
            · have en : nl = 0 := by simpa using enl.symm
              subst en
              clear enl
              go_wp2_with fail
              refine (rlast_nil b g _ hR4).mono ?_
              rintro e v3 ⟨rfl, rfl⟩
              have hO5 := hO4
              have hR5 := hR4
              have hP5 := hP4
              have hgs5 := hgs4
              have hgb5 := hgw
              have hsep5 := Hsep.out
              clear hO4 hR4 hP4
              have HS5 := Lib.hid hsep5
              clear hsep5
              go_wp2_with fail
              refine (rlen_any b g [] _ hR5).mono ?_
              rintro e v6 ⟨rfl, rfl⟩
              go_wp2_with fail
              refine (rall_any b g [] _ hR5).mono ?_
              rintro e v6 ⟨A6, n6, c6, rfl, ho6, hP6⟩
              have e6 : n6 = 0 := by have := ho6.1; simp [ivs] at this; omega
              subst e6
              have hP56 := hP5.trans hP6
              go_wp2_with fail
              refine (same_int A6 _ _ c6 _ [] _ (Sl.of_own ho6) (hO5.pu hP6).sl (by omega)).mono ?_
              rintro e v7 ⟨rfl, h7⟩
              have hP7 := hP6.trans h7
              go_wp2
              go_roundw
              case rel => exact ⟨j + 1, _, _, _, [], g, by omega, by go_num, rfl, by omega, hO5.pu hP7, hR5.pu hP7, hgb5, Nat.lt_of_lt_of_le hgs5 hP7.size, HS5.out, hP56.trans h7⟩
              case measure => simp [intOf]; omega
            · have en : nl = t.length + 1 := by simpa using enl.symm
              subst en
              simp only [List.length_append, List.length_cons, List.length_nil] at hll
              clear enl
              have s1 : IntKind.i64.wrap ((t.length : Nat) : Int) = ((t.length : Nat) : Int) := IntWalk.i64_in _ (by omega)
              go_wp2_with fail
              refine (rlast_snoc b g z t _ hR4).mono ?_
              rintro e v3 ⟨rfl, hR5, hF5⟩
              have hO3 := hO4.fr hF5 (fun z e h => by
                have := Hsep.out z e
                rcases h with h | h
                · exact this.1 h
                · exact this.2 h)
              have hP5 : Pu w v3 := hP4.step hF5 (fun i hi => by rcases hi with e | e <;> omega)
              have hgs5 := Nat.lt_of_lt_of_le hgs4 hF5.size
              have hgb5 := hgw
              obtain ⟨h, off3, ds, hA3, hb3, hs3, hr3⟩ := hO3.2.2.2.2 (by have := hO3.2.1; omega)
              have hcl : t.length + 1 ≤ cl := hO3.2.1
              have hsep := Hsep.out
              subst hA3
              have hsepl := hsep _ rfl
              have q0 : v3.cell? ⟨h, off3 + t.length, none⟩ = some (.int .i64 z) := (hb3.cell _).trans (hr3 t.length z (by simp))
              have hO5 := hO3.init
              rw [Nat.add_sub_cancel] at hO5
              have hsep5 := hsep
              clear hb3 hr3 hs3 hO3 hO4 hR4 hP4 hF5 hsep
              have HS5 := Lib.hid hsep5
              clear hsep5
              go_wp2_with fail
              refine (rlen_any b g t _ hR5).mono ?_
              rintro e v6 ⟨rfl, rfl⟩
              go_wp2_with fail
              refine (rall_any b g t _ hR5).mono ?_
              rintro e v6 ⟨A6, n6, c6, rfl, ho6, hP6⟩
              have e6 : n6 = t.length := by have := ho6.1; simp [ivs] at this; omega
              subst e6
              have hP56 := hP5.trans hP6
              go_wp2_with fail
              refine (same_int A6 _ _ c6 _ t _ (Sl.of_own ho6) (hO5.pu hP6).sl (by omega)).mono ?_
              rintro e v7 ⟨rfl, h7⟩
              have hP7 := hP6.trans h7
              go_wp2
              go_roundw
              case rel => exact ⟨j + 1, _, _, _, t, g, by omega, by go_num, rfl, by omega, hO5.pu hP7, hR5.pu hP7, hgb5, Nat.lt_of_lt_of_le hgs5 hP7.size, HS5.out, hP56.trans h7⟩
              case measure => simp [intOf]; omega
          · by_cases k4 : kd = 4
            · subst k4
              go_wp2_with fail
              refine (rpush_any b g l [] none 0 0 _ hR4 (Sl.nil _ _ _ _) (by omega) (fun h => by omega)).mono ?_
              rintro e v3 ⟨rfl, g5, hg5, hR5, hF5⟩
              rw [List.append_nil] at hR5
              have hO5 := hO4.fr hF5 (fun z e h => by
                have := Hsep.out z e
                rcases h with h | h
                · exact this.1 h
                · exact this.2 h)
              have hP5 : Pu w v3 := hP4.step hF5 (fun i hi => by rcases hi with e | e <;> omega)
              have hsz5 := hF5.size
              have hg53 : g5 < v3.heap.size ∧ w.heap.size ≤ g5 ∧ (g5 = g ∨ wr.heap.size ≤ g5) := by
                rcases hg5 with e | e
                · rw [e]; exact ⟨by omega, hgw, .inl rfl⟩
                · exact ⟨e.2, by omega, .inr (by omega)⟩
              obtain ⟨hgs5, hgb5, hgg⟩ := hg53
              have hsep5 : ∀ y, Al = some y → y.block ≠ b ∧ y.block ≠ g5 := fun y e => by
                have h1 := Hsep.out y e
                have h2 := HAlt.out y e
                refine ⟨h1.1, ?_⟩
                rcases hgg with e3 | e3
                · rw [e3]; exact h1.2
                · omega
              clear hg5 hbO hO4 hR4 hP4 hF5
              subst enl
              have HS5 := Lib.hid hsep5
              clear hsep5
              go_wp2_with fail
              refine (rlen_any b g5 l _ hR5).mono ?_
              rintro e v6 ⟨rfl, rfl⟩
              go_wp2_with fail
              refine (rall_any b g5 l _ hR5).mono ?_
              rintro e v6 ⟨A6, n6, c6, rfl, ho6, hP6⟩
              have e6 : n6 = l.length := by have := ho6.1; simp [ivs] at this; omega
              subst e6
              have hP56 := hP5.trans hP6
              go_wp2_with fail
              refine (same_int A6 _ _ c6 _ l _ (Sl.of_own ho6) (hO5.pu hP6).sl (by omega)).mono ?_
              rintro e v7 ⟨rfl, h7⟩
              have hP7 := hP6.trans h7
              go_wp2
              go_roundw
              case rel => exact ⟨j + 1, _, _, _, l, g5, by omega, by go_num, rfl, by omega, hO5.pu hP7, hR5.pu hP7, hgb5, Nat.lt_of_lt_of_le hgs5 hP7.size, HS5.out, hP56.trans h7⟩
              case measure => simp [intOf]; omega
            · skip
              have hO5 := hO4
              have hR5 := hR4
              have hP5 := hP4
              have hgs5 := hgs4
              have hgb5 := hgw
              have hsep5 := Hsep.out
              clear hO4 hR4 hP4
              subst enl
              have HS5 := Lib.hid hsep5
              clear hsep5
              go_wp2_with fail
              refine (rlen_any b g l _ hR5).mono ?_
              rintro e v6 ⟨rfl, rfl⟩
              go_wp2_with fail
              refine (rall_any b g l _ hR5).mono ?_
              rintro e v6 ⟨A6, n6, c6, rfl, ho6, hP6⟩
              have e6 : n6 = l.length := by have := ho6.1; simp [ivs] at this; omega
              subst e6
              have hP56 := hP5.trans hP6
              go_wp2_with fail
              refine (same_int A6 _ _ c6 _ l _ (Sl.of_own ho6) (hO5.pu hP6).sl (by omega)).mono ?_
              rintro e v7 ⟨rfl, h7⟩
              have hP7 := hP6.trans h7
              go_wp2
              go_roundw
              case rel => exact ⟨j + 1, _, _, _, l, g, by omega, by go_num, rfl, by omega, hO5.pu hP7, hR5.pu hP7, hgb5, Nat.lt_of_lt_of_le hgs5 hP7.size, HS5.out, hP56.trans h7⟩
              case measure => simp [intOf]; omega
    · obtain rfl : j = m := by omega
      go_wp2
      go_ret
      exact ⟨rfl, hPs⟩

theorem rows_big (A B : Option Addr) (n c m d : Nat) (w : World) (hn : n ≤ 9223372036854775807) (hm : m ≤ 9223372036854775807) (hb : 30 < n ∨ 100 < m) :
    Calls Try.prog 5 #[.slice A n c, .slice B m d] w fun e w' => e = .returned (.bool true) ∧ Pu w w' := by
  by_cases h1 : 30 < n
  · go_enter Try.func5, Try.ntmps5
    go_wp2_with fail
    refine (anchor_any _).mono ?_
    rintro e w1 ⟨rfl, H1⟩
    go_wp2
    go_ret
    exact ⟨rfl, H1⟩
  · have h3 : 100 < m := by omega
    have h4 : n ≤ 30 := by omega
    clear hb h1
    go_enter Try.func5, Try.ntmps5
    go_wp2_with fail
    refine (anchor_any _).mono ?_
    rintro e w1 ⟨rfl, H1⟩
    go_wp2
    go_ret
    exact ⟨rfl, H1⟩
end Go.Proofs.Ytckfnbckoclhpaa
