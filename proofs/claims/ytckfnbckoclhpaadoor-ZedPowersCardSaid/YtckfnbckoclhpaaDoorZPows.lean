/- ZedPowers, the walk. -/
import Derived.Test.YtckfnbckoclhpaaDoorZGcds
import Derived.Test.YtckfnbckoclhpaaDoorZBest
set_option linter.unusedVariables false
namespace Go.Proofs.YtckfnbckoclhpaaDoor
open Go.RowKit

theorem OI.one (w : World) (g : Bool) (A : Option Addr) (n c : Nat) (z : Int) (hz : ZR w (.agg #[.bool g, .slice A n c]) z) : OI (w.alloc (.cells #[.bool g, .slice A n c] 25)) w.heap.size (some ⟨w.heap.size, 0, none⟩) 1 1 [(g, A, n, c)] [z] := by
  have hq : ZR w (Part.val (g, A, n, c)) z := hz
  refine ⟨⟨rfl, .inr ⟨w.heap.size, 1, #[.bool g, .slice A n c], rfl, Nat.le_refl _, heap_alloc_new w _, Nat.le_refl _, by decide, rfl, rfl⟩⟩, ⟨rfl, fun i q y h1 h2 => ?_⟩, fun q h => ?_⟩
  · match i, h1, h2 with
    | 0, h1, h2 =>
      injection h1 with h1
      injection h2 with h2
      subst h1 h2
      exact hq.pu ((Pu.refl w).alloc _)
    | i + 1, h1, h2 => simp at h1
  · rw [List.mem_singleton.1 h]
    exact hq.lt.mono fun k e => by
      have e' : some w.heap.size = some k := e
      injection e' with e'
      omega
theorem word_pos2 (k : Nat) : (0 : Int).natAbs < 4294967296 ^ k := Nat.pow_pos (by decide)
theorem pres_seven (s : List UInt8) : (pres s).natAbs < 4294967296 ^ 7 := sixty_up (pres_small s) 7 (by decide)
theorem cmpZ_ge {x y : Int} (h : y ≤ x) : ∃ s, cmpZ x y = s ∧ decide (s < 0) = false := by
  rcases cmpZ_case x y with ⟨e, h'⟩ | ⟨e, h'⟩ | ⟨e, h'⟩
  · omega
  · exact ⟨_, e, rfl⟩
  · exact ⟨_, e, rfl⟩
theorem cmpZ_le {x y : Int} (h : x ≤ y) : ∃ s, cmpZ x y = s ∧ decide (s > 0) = false ∧ decide (0 < s) = false := by
  rcases cmpZ_case x y with ⟨e, h'⟩ | ⟨e, h'⟩ | ⟨e, h'⟩
  · exact ⟨_, e, rfl, rfl⟩
  · exact ⟨_, e, rfl, rfl⟩
  · omega
theorem cmpZ_eqb (x y : Int) : (∃ s, cmpZ x y = s ∧ (s == 0) = true ∧ x = y) ∨ (∃ s, cmpZ x y = s ∧ (s == 0) = false ∧ x ≠ y) := by
  rcases cmpZ_case x y with ⟨e, h'⟩ | ⟨e, h'⟩ | ⟨e, h'⟩
  · exact .inr ⟨_, e, rfl, by omega⟩
  · exact .inl ⟨_, e, rfl, h'⟩
  · exact .inr ⟨_, e, rfl, by omega⟩

set_option maxHeartbeats 16000000 in
set_option maxRecDepth 100000 in
theorem powers_walk (w : World) (a : List UInt8) (k : Int) (A : Option Addr) (n c : Nat) (ts : List (List UInt8)) (ha : a.length ≤ 9223372036854775807) (h : Sl w 1 A n c (texts ts)) (hn : n ≤ 9223372036854775807) :
    Calls Tryd.prog 10 #[.string ⟨a.toArray⟩, .int .i64 k, .slice A n c] w fun e w' => e = .returned (.bool true) ∧ Pu w w' := by
  have hanc := anchor_any w
  have hl : ts.length = n := by have := h.1; simpa using this
  have hsz : (⟨a.toArray⟩ : ByteArray).size = a.length := by simp [ByteArray.size]
  have hp1 := fun W => parse_any a W
  have Hp1 := Lib.hid hp1
  clear hp1
  go_enter Tryd.func10, Tryd.ntmps10
  go_wp2_with fail
  refine hanc.mono ?_
  rintro e w1 ⟨rfl, p1⟩
  clear hanc
  go_wp2_with fail
  refine (Hp1.out _).mono ?_
  rintro e w2 ⟨v2, rfl, hx, p2⟩
  obtain ⟨gx, Ax, nx, cx, rfl⟩ := hx.shape
  have P2 := p1.trans p2
  have pX : Pu w2 (w2.alloc (.cells #[.bool gx, .slice Ax nx cx] 25)) := (Pu.refl _).alloc _
  have PX := P2.trans pX
  have kx : Blk (w2.alloc (.cells #[.bool gx, .slice Ax nx cx] 25)) w2.heap.size 25 #[.bool gx, .slice Ax nx cx] := Blk.new _ _ _
  replace hx := hx.pu pX
  have Hx := Lib.hid hx
  clear p1 p2 P2 pX Hp1 hx
  rcases Decidable.em (pcode a = 0) with hpc | hpc
  case inr =>
    have d3 : (((pcode a : Nat) : Int) == 0) = false := by simp; omega
    clear kx
    go_wp2
    go_ret
    exact ⟨rfl, PX⟩
  rw [hpc]
  rcases Nat.lt_or_ge 12 a.length with hla | hla
  · have e1 : decide ((a.length : Int) > 12) = true := by simp; omega
    have e2 : decide ((12 : Int) < (a.length : Int)) = true := by simp; omega
    clear kx
    go_wp2
    go_ret
    exact ⟨rfl, PX⟩
  have e1 : decide ((a.length : Int) > 12) = false := by simp; omega
  have e2 : decide ((12 : Int) < (a.length : Int)) = false := by simp; omega
  rcases Decidable.em (40 < k ∧ k ≤ 1000) with hk | hk
  · have e3 : decide (k > 40) = true := decide_eq_true hk.1
    have e4 : decide (40 < k) = true := decide_eq_true hk.1
    have e5 : decide (k ≤ 1000) = true := decide_eq_true hk.2
    clear kx
    go_wp2
    go_ret
    exact ⟨rfl, PX⟩
  rcases Nat.lt_or_ge 12 n with hbig | hbig
  · have e6 : decide ((n : Int) > 12) = true := by simp; omega
    have e7 : decide ((12 : Int) < (n : Int)) = true := by simp; omega
    clear kx
    rcases Int.lt_or_le 40 k with h40 | h40
    · have e3 : decide (k > 40) = true := decide_eq_true h40
      have e4 : decide (40 < k) = true := decide_eq_true h40
      have e5 : decide (k ≤ 1000) = false := decide_eq_false (by omega)
      go_wp2
      go_ret
      exact ⟨rfl, PX⟩
    · have e3 : decide (k > 40) = false := decide_eq_false (by omega)
      have e4 : decide (40 < k) = false := decide_eq_false (by omega)
      go_wp2
      go_ret
      exact ⟨rfl, PX⟩
  have e6 : decide ((n : Int) > 12) = false := by simp; omega
  have e7 : decide ((12 : Int) < (n : Int)) = false := by simp; omega
  have hBx := pres_seven a
  generalize pres a = za at *
  have Bx := Lib.hid hBx
  clear hBx
  rcases Decidable.em (k < 0 ∨ 1000 < k) with hr | hr
  · have hpw := pow_range _ za k _ Hx.out hr
    have hd : (decide (k > 40) = false ∧ decide (40 < k) = false ∧ decide (k < 0) = true) ∨ (decide (k > 40) = true ∧ decide (40 < k) = true ∧ decide (k ≤ 1000) = false ∧ decide (k < 0) = false ∧ decide (k > 1000) = true ∧ decide (1000 < k) = true) := by
      rcases hr with e | e
      · exact .inl ⟨decide_eq_false (by omega), decide_eq_false (by omega), decide_eq_true e⟩
      · exact .inr ⟨decide_eq_true (by omega), decide_eq_true (by omega), decide_eq_false (by omega), decide_eq_false (by omega), decide_eq_true e, decide_eq_true e⟩
    have x0 := kx.cell 0
    have x1 := kx.cell 1
    clear kx
    rcases hd with ⟨d1, d2, d3⟩ | ⟨d1, d2, d3, d4, d5, d6⟩
    all_goals
      go_wp2_with fail
      refine hpw.mono ?_
      rintro e u1 ⟨vp, rfl, hp, q1⟩
      obtain ⟨gp, Ap, np, cp, rfl⟩ := hp.shape
      have pP : Pu u1 (u1.alloc (.cells #[.bool gp, .slice Ap np cp] 25)) := (Pu.refl _).alloc _
      clear x0 x1
      go_wp2_with fail
      refine (sign_any _ 0 _ (hp.pu pP) (word_pos2 1000)).mono ?_
      rintro e u2 ⟨rfl, q2⟩
      have PF := ((PX.trans q1).trans pP).trans q2
      go_wp2
      go_ret
      exact ⟨rfl, PF⟩
  · obtain ⟨m, rfl⟩ := Int.eq_ofNat_of_zero_le (show 0 ≤ k by omega)
    have hm : m ≤ 40 := by omega
    have e3 : decide ((m : Int) > 40) = false := decide_eq_false (by omega)
    have e4 : decide ((40 : Int) < (m : Int)) = false := decide_eq_false (by omega)
    have e8 : decide ((m : Int) < 0) = false := decide_eq_false (by omega)
    have e9 : decide ((m : Int) > 1000) = false := decide_eq_false (by omega)
    have e10 : decide ((1000 : Int) < (m : Int)) = false := decide_eq_false (by omega)
    have hpw := pow_any _ za m _ Hx.out Bx.out hm
    have x0 := kx.cell 0
    have x1 := kx.cell 1
    clear hr hk
    go_wp2_with fail
    refine hpw.mono ?_
    rintro e u1 ⟨vp, rfl, hp, q1⟩
    obtain ⟨gp, Ap, np, cp, rfl⟩ := hp.shape
    have pP : Pu u1 (u1.alloc (.cells #[.bool gp, .slice Ap np cp] 25)) := (Pu.refl _).alloc _
    have kp : Blk (u1.alloc (.cells #[.bool gp, .slice Ap np cp] 25)) u1.heap.size 25 #[.bool gp, .slice Ap np cp] := Blk.new _ _ _
    replace hp := hp.pu pP
    have hx := Hx.out.pu (q1.trans pP)
    replace kx := kx.pu (q1.trans pP)
    have P2 := PX.trans (q1.trans pP)
    clear x0 x1 hpw Hx PX q1 pP
    go_wp2_with fail
    generalize u1.alloc (.cells #[.bool gp, .slice Ap np cp] 25) = W2 at *
    refine (from_any 1 W2 (by omega) (by omega)).mono ?_
    rintro e u2 ⟨v3, rfl, h3, q2⟩
    obtain ⟨g3, A3, n3, c3, rfl⟩ := h3.shape
    have pA : Pu u2 (u2.alloc (.cells #[.bool g3, .slice A3 n3 c3] 25)) := (Pu.refl _).alloc _
    have kO : Blk (u2.alloc (.cells #[.bool g3, .slice A3 n3 c3] 25)) u2.heap.size 25 #[.bool g3, .slice A3 n3 c3] := Blk.new _ _ _
    have hO := h3.pu pA
    have hP := q2.trans pA
    have hs2 := q2.size
    clear h3 q2 pA
    go_wp2_with fail
    go_loopw [74] (fun iv ws => ∃ (j : Nat) (g5 : Bool) (A5 : Option Addr) (m5 c5 : Nat), j ≤ m ∧ iv = .int .i64 (j : Int) ∧ Blk ws u2.heap.size 25 #[.bool g5, .slice A5 m5 c5] ∧ ZR ws (.agg #[.bool g5, .slice A5 m5 c5]) (za ^ j) ∧ Pu W2 ws) (fun iv _ => m - (intOf iv).toNat)
    case atStart => exact ⟨0, g3, A3, n3, c3, Nat.zero_le _, rfl, kO, by rw [Int.pow_zero]; exact hO, hP⟩
    case round =>
      clear kO hO hP
      obtain ⟨j, g5, A5, m5, c5, hj, rfl, kO, hO, hP⟩ := hrel
      by_cases hlt : j < m
      · have o0 : wr.cell? ⟨u2.heap.size, 0, none⟩ = some (.bool g5) := kO.cell 0
        have o1 : wr.cell? ⟨u2.heap.size, 1, none⟩ = some (.slice A5 m5 c5) := kO.cell 1
        have a0 : wr.cell? ⟨w2.heap.size, 0, none⟩ = some (.bool gx) := (kx.pu hP).cell 0
        have a1 : wr.cell? ⟨w2.heap.size, 1, none⟩ = some (.slice Ax nx cx) := (kx.pu hP).cell 1
        have hmm := mul_any _ _ (za ^ j) za wr hO (hx.pu hP) (pow_small Bx.out (by omega) 20000 (by decide)) (seven_up Bx.out 20000 (by decide))
        rw [← Int.pow_succ] at hmm
        have Hm := Lib.hid hmm
        have hwj : IntKind.i64.wrap ((j : Int) + 1) = (j : Int) + 1 := IntWalk.i64_in _ (by omega)
        clear hmm hO
        go_wp2_with fail
        refine Hm.out.mono ?_
        rintro e u6 ⟨v6, rfl, h6, p6⟩
        obtain ⟨g6, A6, m6, c6, rfl⟩ := h6.shape
        have kO6 := kO.pu p6
        have o2 : u6.cell? ⟨u2.heap.size, 0, none⟩ = some (.bool g5) := kO6.cell 0
        have o3 : u6.cell? ⟨u2.heap.size, 1, none⟩ = some (.slice A5 m5 c5) := kO6.cell 1
        have f0 := kO6.frozen 0
        have f1 := kO6.frozen 1
        obtain ⟨kO7, fr⟩ := over_n kO6 g6 A6 m6 c6
        obtain ⟨_, _, rz, rp⟩ := store_num kO6 g6 A6 m6 c6
        have h67 := rz _ _ h6
        have P7 := rp _ (hP.trans p6) hs2
        have H67 := Lib.hid h67
        clear rz rp fr kO kO6 h6 hP p6 Hm a0 a1 o0 o1 h67
        go_wp2
        go_roundw
        case rel => exact ⟨j + 1, g6, A6, m6, c6, by omega, by go_num, kO7, H67.out, P7⟩
        case measure => simp [intOf]; omega
      · obtain rfl : j = m := by omega
        have hx4 := hx.pu hP
        have hp4 := hp.pu hP
        have kx4 := kx.pu hP
        have kp4 := kp.pu hP
        have P4 := P2.trans hP
        have a0 : wr.cell? ⟨w2.heap.size, 0, none⟩ = some (.bool gx) := kx4.cell 0
        have a1 : wr.cell? ⟨w2.heap.size, 1, none⟩ = some (.slice Ax nx cx) := kx4.cell 1
        clear hx hp kx kp P2 hP hs2
        generalize wr = W4 at *
        have hO1 := OI.one W4 gx Ax nx cx za hx4
        have pO : Pu W4 (W4.alloc (.cells #[.bool gx, .slice Ax nx cx] 25)) := (Pu.refl _).alloc _
        clear hx4
        go_wp2_with fail
        go_loopw [12, 84] (fun av iv ws => ∃ (i c1 : Nat) (A1 : Option Addr) (l : List Part), i ≤ n ∧ av = .slice A1 (i + 1) c1 ∧ iv = .int .i64 (i : Int) ∧ OI ws W4.heap.size A1 (i + 1) c1 l (za :: (ts.take i).map pres) ∧ Pu W4 ws) (fun _ iv _ => n - (intOf iv).toNat)
        case atStart => exact ⟨0, 1, _, _, Nat.zero_le _, rfl, rfl, hO1, pO⟩
        case round =>
          clear hO1 pO a0 a1
          obtain ⟨i, c1, A1, l, hi, rfl, rfl, hO2, hP⟩ := hrel
          have HO := Lib.hid hO2
          clear hO2
          by_cases hlt : i < n
          · obtain ⟨s, hsi⟩ : ∃ s, ts[i]? = some s := ⟨_, List.getElem?_eq_getElem (by omega)⟩
            obtain ⟨b, off, rfl, hbl, x0⟩ := texts_at (h.pu (P4.trans hP)) hsi
            have Hsi := Lib.hid hsi
            have hwi : IntKind.i64.wrap ((i : Int) + 1) = (i : Int) + 1 := IntWalk.i64_in _ (by omega)
            have hp1 := parse_new s wr
            clear hsi
            go_wp2_with fail
            refine hp1.mono ?_
            rintro e u3 ⟨v1, rfl, hy, hby, q1⟩
            obtain ⟨⟨gy, Ay, ny, cy⟩, rfl⟩ := part_of hy
            clear hp1 x0
            by_cases hpc : pcode s = 0
            · rw [hpc]
              obtain ⟨U, hU⟩ : ∃ U, U = u3.alloc (.cells #[.bool gy, .slice Ay ny cy] 25) := ⟨_, rfl⟩
              have hUs : U.heap.size = u3.heap.size + 1 := by rw [hU]; simp
              have kU : Blk U u3.heap.size 25 #[.bool gy, .slice Ay ny cy] := by rw [hU]; exact Blk.new _ _ _
              have pU : Pu u3 U := by rw [hU]; exact (Pu.refl _).alloc _
              have y0 : (u3.alloc (.cells #[.bool gy, .slice Ay ny cy] 25)).cell? ⟨u3.heap.size, 0, none⟩ = some (.bool gy) := (Blk.new u3 _ _).cell 0
              have y1 : (u3.alloc (.cells #[.bool gy, .slice Ay ny cy] 25)).cell? ⟨u3.heap.size, 1, none⟩ = some (.slice Ay ny cy) := (Blk.new u3 _ _).cell 1
              have PU := q1.trans pU
              have hO3 := HO.out.pu PU
              have hPU := hP.trans PU
              have hszb : W4.heap.size ≤ U.heap.size := hPU.size
              have hx2 : ZR U (Part.val (gy, Ay, ny, cy)) (pres s) := hy.pu pU
              have hfar : Far (fun k => (Value.slice A1 (i + 1) c1).ownBlock = some k) (gy, Ay, ny, cy) := Far.mono (Bey.far hby) (fun k hk => (HO.out.own.lt k hk).2)
              have Hfar := Lib.hid hfar
              have Hx2 := Lib.hid hx2
              clear hfar hx2 hy q1 pU PU hP hby
              go_wp2_with (at_builtin; rw [← hU]; refine wpList_pushL eiZ rfl (.tmp 95) (.tmp 97) rfl #[.bool gy, .slice Ay ny cy] rfl (by simp [Value.oneCell']) rfl rfl hUs hO3.own (by simp [maxLen]; omega) (by omega) hszb ?_)
              intro g3 c3 w3 ho3 hg3 hw3
              rw [← hU] at hg3
              have hUB : (U.alloc (.cells #[.bool gy, .slice Ay ny cy] 25)).heap.size = U.heap.size + 1 := by simp
              have pB : Pu U (U.alloc (.cells #[.bool gy, .slice Ay ny cy] 25)) := (Pu.refl U).alloc _
              have hOB := hO3.pu pB
              have hO4 := OI.push hOB (Hx2.out.pu pB) Hfar.out ho3 hg3 (hw3.imp id (fun e => by rw [hUB]; omega))
              rw [List.cons_append, ← take_map_next pres Hsi.out] at hO4
              have hP3 := pu_push (hPU.trans pB) hOB.own (Nat.le_refl _) hg3
              have HO4 := Lib.hid hO4
              clear y0 y1 hO3 hPU kU hU hUs hszb pB hOB hO4 ho3 hg3 hw3 Hfar Hx2 HO hUB
              go_wp2
              go_roundw
              case rel => exact ⟨i + 1, c3, _, _, by omega, rfl, by go_num, HO4.out, hP3⟩
              case measure => simp [intOf]; omega
            · have d3 : (((pcode s : Nat) : Int) == 0) = false := by simp; omega
              have PF := (P4.trans hP).trans (q1.alloc (.cells #[.bool gy, .slice Ay ny cy] 25))
              clear kO kx4 kp4 hp4 hO
              go_wp2
              go_ret
              exact ⟨rfl, PF⟩
          · obtain rfl : i = n := by omega
            have hT : ts.take i = ts := List.take_of_length_le (by omega)
            rw [hT] at HO
            have hIL := HO.out.il
            obtain ⟨Z, hZ⟩ : ∃ Z, Z = za :: ts.map pres := ⟨_, rfl⟩
            rw [← hZ] at hIL
            have hZb : ∀ z ∈ Z, z.natAbs < 4294967296 ^ 7 := fun z hz => by
              rw [hZ] at hz
              rcases List.mem_cons.1 hz with e | e
              · rw [e]; exact Bx.out
              · obtain ⟨s', _, rfl⟩ := List.mem_map.1 e
                exact pres_seven s'
            have HZb := Lib.hid hZb
            have hZl : Z.length = i + 1 := hIL.len
            have hbs := best_any A1 (i + 1) c1 Z wr hIL (by omega) (by omega) hZb
            clear hZ hZb hT HO
            go_wp2_with fail
            refine hbs.mono ?_
            rintro e u3 ⟨vl, vh, lo, hi, rfl, hlo, hhi, mlo, mhi, hbd, q1⟩
            obtain ⟨gl, Al, nl, cl, rfl⟩ := hlo.shape
            obtain ⟨gh, Ah, nh, ch, rfl⟩ := hhi.shape
            have pB : Pu u3 ((u3.alloc (.cells #[.bool gl, .slice Al nl cl] 25)).alloc (.cells #[.bool gh, .slice Ah nh ch] 25)) := ((Pu.refl _).alloc _).alloc _
            have kl : Blk ((u3.alloc (.cells #[.bool gl, .slice Al nl cl] 25)).alloc (.cells #[.bool gh, .slice Ah nh ch] 25)) u3.heap.size 25 #[.bool gl, .slice Al nl cl] := (Blk.new _ _ _).alloc _
            have kh : Blk ((u3.alloc (.cells #[.bool gl, .slice Al nl cl] 25)).alloc (.cells #[.bool gh, .slice Ah nh ch] 25)) (u3.heap.size + 1) 25 #[.bool gh, .slice Ah nh ch] := Blk.at_new _ _ _ (by simp)
            have Blo := Lib.hid (HZb.out lo mlo)
            have Bhi := Lib.hid (HZb.out hi mhi)
            have Hbd := Lib.hid hbd
            have Mlo := Lib.hid mlo
            clear hbs mlo mhi hbd
            go_wp2_with fail
            refine (best_none _).mono ?_
            rintro e u4 ⟨rfl, q2⟩
            have pC : Pu u4 ((u4.alloc (.cells #[.bool false, .slice none 0 0] 25)).alloc (.cells #[.bool false, .slice none 0 0] 25)) := ((Pu.refl _).alloc _).alloc _
            have PC := (pB.trans q2).trans pC
            replace kl := kl.pu (q2.trans pC)
            replace kh := kh.pu (q2.trans pC)
            replace hlo := hlo.pu PC
            replace hhi := hhi.pu PC
            have PD := (hP.trans q1).trans PC
            have kP := kp4.pu PD
            have kW := kO.pu PD
            have hPp := hp4.pu PD
            have hWw := hO.pu PD
            have hI := hIL.pu (q1.trans PC)
            have PE := P4.trans PD
            clear q1 q2 pB pC PC PD kx4 kp4 hp4 kO hO hIL hP hlt P4
            go_wp2_with fail
            generalize (u4.alloc (.cells #[.bool false, .slice none 0 0] 25)).alloc (.cells #[.bool false, .slice none 0 0] 25) = W6 at *
            go_loopw [23, 113] (fun fv iv ws => ∃ (q f : Nat), q ≤ i + 1 ∧ fv = .int .i64 (f : Int) ∧ iv = .int .i64 (q : Int) ∧ f ≤ q ∧ (lo ∈ Z.take q → 0 < f) ∧ Pu W6 ws) (fun _ iv _ => i + 1 - (intOf iv).toNat)
            case atStart => exact ⟨0, 0, Nat.zero_le _, rfl, rfl, Nat.le_refl _, fun h => by simp at h, Pu.refl _⟩
            case round =>
              obtain ⟨q, f, hq, rfl, rfl, hfq, hf, hP⟩ := hrel
              have Hf := Lib.hid hf
              clear hf
              by_cases hlt : q < i + 1
              · obtain ⟨y, hyi⟩ : ∃ y, Z[q]? = some y := ⟨_, List.getElem?_eq_getElem (by omega)⟩
                obtain ⟨b, off, gy, Ay, ny, cy, rfl, hbl, x0, x1, hy⟩ := (hI.pu hP).at_ hyi
                have my := List.mem_of_getElem? hyi
                obtain ⟨s1, e1', d1⟩ := cmpZ_ge (Hbd.out y my).1
                obtain ⟨s2, e2', d2, d2'⟩ := cmpZ_le (Hbd.out y my).2
                have E1 := Lib.hid e1'
                have E2 := Lib.hid e2'
                have By := Lib.hid (HZb.out y my)
                have Hyi := Lib.hid hyi
                have hwq : IntKind.i64.wrap ((q : Int) + 1) = (q : Int) + 1 := IntWalk.i64_in _ (by omega)
                have hwf : IntKind.i64.wrap ((f : Int) + 1) = (f : Int) + 1 := IntWalk.i64_in _ (by omega)
                have hlq : (q : Int) < (i : Int) + 1 := by omega
                have pA : Pu wr (wr.alloc (.cells #[.bool gy, .slice Ay ny cy] 25)) := (Pu.refl wr).alloc _
                have kT : Blk (wr.alloc (.cells #[.bool gy, .slice Ay ny cy] 25)) wr.heap.size 25 #[.bool gy, .slice Ay ny cy] := Blk.new _ _ _
                have hyT := hy.pu pA
                replace kl := kl.pu (hP.trans pA)
                replace kh := kh.pu (hP.trans pA)
                replace hlo := hlo.pu (hP.trans pA)
                replace hhi := hhi.pu (hP.trans pA)
                replace hP := hP.trans pA
                clear my e1' e2' hyi hy pA
                have t0 := kT.cell 0
                have t1 := kT.cell 1
                have t2 := kl.cell 0
                have t3 := kl.cell 1
                go_wp2_with fail
                refine (cmp_any _ _ y lo _ hyT hlo (seven_up By.out 1000 (by decide)) (seven_up Blo.out 1000 (by decide))).mono ?_
                rintro e r1 ⟨rfl, p9⟩
                rw [E1.out]
                replace kT := kT.pu p9
                replace kl := kl.pu p9
                replace kh := kh.pu p9
                replace hyT := hyT.pu p9
                replace hlo := hlo.pu p9
                replace hhi := hhi.pu p9
                replace hP := hP.trans p9
                clear t0 t1 t2 t3 p9
                have t0 := kT.cell 0
                have t1 := kT.cell 1
                have t2 := kh.cell 0
                have t3 := kh.cell 1
                go_wp2_with fail
                refine (cmp_any _ _ y hi _ hyT hhi (seven_up By.out 1000 (by decide)) (seven_up Bhi.out 1000 (by decide))).mono ?_
                rintro e r2 ⟨rfl, p9⟩
                rw [E2.out]
                replace kT := kT.pu p9
                replace kl := kl.pu p9
                replace kh := kh.pu p9
                replace hyT := hyT.pu p9
                replace hlo := hlo.pu p9
                replace hhi := hhi.pu p9
                replace hP := hP.trans p9
                clear t0 t1 t2 t3 p9
                rcases cmpZ_eqb y lo with ⟨s3, e3', d3, c3⟩ | ⟨s3, e3', d3, c3⟩
                · have E3 := Lib.hid e3'
                  clear e3' c3
                  have t0 := kT.cell 0
                  have t1 := kT.cell 1
                  have t2 := kl.cell 0
                  have t3 := kl.cell 1
                  go_wp2_with fail
                  refine (cmp_any _ _ y lo _ hyT hlo (seven_up By.out 1000 (by decide)) (seven_up Blo.out 1000 (by decide))).mono ?_
                  rintro e r3 ⟨rfl, p9⟩
                  rw [E3.out]
                  replace kT := kT.pu p9
                  replace kl := kl.pu p9
                  replace kh := kh.pu p9
                  replace hyT := hyT.pu p9
                  replace hlo := hlo.pu p9
                  replace hhi := hhi.pu p9
                  replace hP := hP.trans p9
                  clear t0 t1 t2 t3 p9
                  go_wp2
                  go_roundw
                  case rel => exact ⟨q + 1, f + 1, by omega, by go_num, by go_num, by omega, fun _ => by omega, hP⟩
                  case measure => simp [intOf]; omega
                · have E3 := Lib.hid e3'
                  have hst : lo ∈ Z.take (q + 1) → 0 < f := fun hm => by
                    rw [List.take_add_one, Hyi.out] at hm
                    rcases List.mem_append.1 hm with e | e
                    · exact Hf.out e
                    · have e' : lo = y := by simpa using e
                      exact absurd e'.symm c3
                  have Hst := Lib.hid hst
                  clear e3' c3 hst
                  have t0 := kT.cell 0
                  have t1 := kT.cell 1
                  have t2 := kl.cell 0
                  have t3 := kl.cell 1
                  go_wp2_with fail
                  refine (cmp_any _ _ y lo _ hyT hlo (seven_up By.out 1000 (by decide)) (seven_up Blo.out 1000 (by decide))).mono ?_
                  rintro e r3 ⟨rfl, p9⟩
                  rw [E3.out]
                  replace kT := kT.pu p9
                  replace kl := kl.pu p9
                  replace kh := kh.pu p9
                  replace hyT := hyT.pu p9
                  replace hlo := hlo.pu p9
                  replace hhi := hhi.pu p9
                  replace hP := hP.trans p9
                  clear t0 t1 t2 t3 p9
                  rcases cmpZ_eqb y hi with ⟨s4, e4', d4, c4⟩ | ⟨s4, e4', d4, c4⟩
                  · have E4 := Lib.hid e4'
                    clear e4' c4
                    have t0 := kT.cell 0
                    have t1 := kT.cell 1
                    have t2 := kh.cell 0
                    have t3 := kh.cell 1
                    go_wp2_with fail
                    refine (cmp_any _ _ y hi _ hyT hhi (seven_up By.out 1000 (by decide)) (seven_up Bhi.out 1000 (by decide))).mono ?_
                    rintro e r4 ⟨rfl, p9⟩
                    rw [E4.out]
                    replace kT := kT.pu p9
                    replace kl := kl.pu p9
                    replace kh := kh.pu p9
                    replace hyT := hyT.pu p9
                    replace hlo := hlo.pu p9
                    replace hhi := hhi.pu p9
                    replace hP := hP.trans p9
                    clear t0 t1 t2 t3 p9
                    go_wp2
                    go_roundw
                    case rel => exact ⟨q + 1, f + 1, by omega, by go_num, by go_num, by omega, fun _ => by omega, hP⟩
                    case measure => simp [intOf]; omega
                  · have E4 := Lib.hid e4'
                    clear e4' c4
                    have t0 := kT.cell 0
                    have t1 := kT.cell 1
                    have t2 := kh.cell 0
                    have t3 := kh.cell 1
                    go_wp2_with fail
                    refine (cmp_any _ _ y hi _ hyT hhi (seven_up By.out 1000 (by decide)) (seven_up Bhi.out 1000 (by decide))).mono ?_
                    rintro e r4 ⟨rfl, p9⟩
                    rw [E4.out]
                    replace kT := kT.pu p9
                    replace kl := kl.pu p9
                    replace kh := kh.pu p9
                    replace hyT := hyT.pu p9
                    replace hlo := hlo.pu p9
                    replace hhi := hhi.pu p9
                    replace hP := hP.trans p9
                    clear t0 t1 t2 t3 p9
                    go_wp2
                    go_roundw
                    case rel => exact ⟨q + 1, f, by omega, by go_num, by go_num, by omega, Hst.out, hP⟩
                    case measure => simp [intOf]; omega
              · obtain rfl : q = i + 1 := by omega
                have hf0 : 0 < f := Hf.out (by rw [List.take_of_length_le (by omega)]; exact Mlo.out)
                have d5 : decide ((f : Int) > 0) = true := by simp; omega
                have d6 : decide ((0 : Int) < (f : Int)) = true := by simp; omega
                have kP2 := kP.pu hP
                have kW2 := kW.pu hP
                have t0 := kP2.cell 0
                have t1 := kP2.cell 1
                have t2 := kW2.cell 0
                have t3 := kW2.cell 1
                have hcm := cmp_any _ _ (za ^ j) (za ^ j) wr (hPp.pu hP) (hWw.pu hP) (pow_small Bx.out (by omega) 1000 (by decide)) (pow_small Bx.out (by omega) 1000 (by decide))
                rw [cmpZ_self] at hcm
                have PF := PE.trans hP
                have hlq : ¬ ((i : Int) + 1 < (i : Int) + 1) := by omega
                clear kP kW hPp hWw kl kh hlo hhi hI
                go_wp2_with fail
                refine hcm.mono ?_
                rintro e r9 ⟨rfl, p9⟩
                have PG := PF.trans p9
                go_wp2
                go_ret
                exact ⟨rfl, PG⟩
end Go.Proofs.YtckfnbckoclhpaaDoor
