/- ZedGcds, the walk. -/
import Derived.Test.YtckfnbckoclhpaaDoorZProd
import Derived.Test.YtckfnbckoclhpaaDoorZLcm
import Derived.Test.YtckfnbckoclhpaaDoorRefZB
import Derived.Deep.RegionHeld3
set_option linter.unusedVariables false
namespace Go.Proofs.YtckfnbckoclhpaaDoor
open Go.RowKit

abbrev texts (ts : List (List UInt8)) : List Value := ts.map fun l => Value.string ⟨l.toArray⟩
theorem texts_at {w : World} {A : Option Addr} {n c i : Nat} {ts : List (List UInt8)} {s : List UInt8} (h : Sl w 1 A n c (texts ts)) (hi : ts[i]? = some s) : ∃ b off, A = some ⟨b, off, none⟩ ∧ b < w.heap.size ∧ w.cell? ⟨b, off + i, none⟩ = some (.string ⟨s.toArray⟩) := by
  have hl : ts.length = n := by have := h.1; simpa using this
  have hlt := (List.getElem?_eq_some_iff.1 hi).1
  obtain ⟨b, off, u, rfl, hb, hu, hc⟩ := h.at_ (j := i) (by omega)
  rw [List.getElem?_map, hi] at hu
  injection hu with hu
  exact ⟨b, off, rfl, hb, by rw [hc, ← hu]⟩
theorem RZ.push {w w' : World} {v : Value} {z : Int} {base k n c : Nat} {A : Option Addr} {xs : List Value} (h : RZ w v z) (hown : w.ownsRow base 25 k (.slice A n c) n xs) (hg : w.grownBy w' (Value.slice A n c).ownBlock) : RZ w' v z := by
  rcases hown.2 with ⟨hv, _⟩ | ⟨g, cap, cur, hv, _, hgg, _⟩
  · rw [hv] at hg
    exact h.pu ((Fr.of_grown hg).mono fun k _ e => by cases e)
  · rw [hv] at hg
    exact h.fr (rb := g) (t := 25) (cs := cur) hgg (by decide) ((Fr.of_grown hg).mono fun k _ e => by
      have e' : some g = some k := e
      injection e' with e'
      exact e'.symm)
theorem blk_pushT {w w' : World} {g base k n c : Nat} {t : TypeId} {cs : Array Value} {A : Option Addr} {xs : List Value} (h : Blk w g t cs) (ht : t ≠ 25) (hown : w.ownsRow base 25 k (.slice A n c) n xs) (hg : w.grownBy w' (Value.slice A n c).ownBlock) : Blk w' g t cs := by
  refine h.fr (Fr.of_grown hg) fun e => ?_
  rcases hown.2 with ⟨hv, _⟩ | ⟨g', cap, cur, hv, _, hgg, _⟩
  · rw [hv] at e
    cases e
  · rw [hv] at e
    have e' : some g' = some g := e
    injection e' with e'
    subst e'
    exact h.ne_ (g' := g') (t' := 25) (cs' := cur) hgg ht rfl
theorem OI.frG {w w' : World} {base n c G : Nat} {A : Option Addr} {l : List Part} {zs : List Int} {t : TypeId} {cs : Array Value} (h : OI w base A n c l zs) (k : Blk w G t cs) (hcs : ∀ x : Int, Value.int .u32 x ∉ cs.toList) (hG : G < base) (hf : Fr (fun j => j = G) w w') : OI w' base A n c l zs :=
  ⟨own_fr h.own hf (fun g hg e => by have := (h.own.lt g hg).1; omega), ⟨h.hold.1, fun i q z h1 h2 => (h.hold.2 i q z h1 h2).frBlk k hcs hf⟩, h.far⟩
theorem part_of {w : World} {v : Value} {z : Int} (h : ZR w v z) : ∃ q : Part, v = q.val := by
  obtain ⟨g, A, n, c, rfl⟩ := h.shape
  exact ⟨(g, A, n, c), rfl⟩
theorem ten_pos (k : Nat) : 0 < (10 : Nat) ^ k := Nat.pow_pos (by decide)
theorem take_map_next {α β : Type} (f : α → β) {l : List α} {i : Nat} {x : α} (h : l[i]? = some x) : (l.take (i + 1)).map f = (l.take i).map f ++ [f x] := by
  rw [List.take_add_one, h, List.map_append]
  rfl
theorem gall_snoc (zs : List Int) (z : Int) : gall (zs ++ [z]) = ((Int.gcd (gall zs) z : Nat) : Int) := by
  rw [gall, List.foldl_append]
  rfl

theorem IL.two (w : World) (g0 g1 : Bool) (A0 A1 : Option Addr) (n0 c0 n1 c1 : Nat) (z0 z1 : Int) (h0 : ZR w (.agg #[.bool g0, .slice A0 n0 c0]) z0) (h1 : ZR w (.agg #[.bool g1, .slice A1 n1 c1]) z1) :
    IL (w.alloc (.cells #[.bool g0, .slice A0 n0 c0, .bool g1, .slice A1 n1 c1] 25)) (some ⟨w.heap.size, 0, none⟩) 2 2 [z0, z1] := by
  refine ⟨[(g0, A0, n0, c0), (g1, A1, n1, c1)], Sl.new w 25 #[.bool g0, .slice A0 n0 c0, .bool g1, .slice A1 n1 c1] 2 2 2 rfl (Nat.le_refl _), rfl, fun i q z hq hz => ?_⟩
  match i, hq, hz with
  | 0, hq, hz =>
    injection hq with hq
    injection hz with hz
    subst hq hz
    exact h0.pu ((Pu.refl w).alloc _)
  | 1, hq, hz =>
    injection hq with hq
    injection hz with hz
    subst hq hz
    exact h1.pu ((Pu.refl w).alloc _)
  | i + 2, hq, hz => simp at hq
theorem cmpZ_self (x : Int) : cmpZ x x = 0 := by simp [cmpZ]
theorem gall_two (z0 z1 : Int) : gall [z0, z1] = ((Int.gcd z0 z1 : Nat) : Int) := by
  show ((Int.gcd ((Int.gcd 0 z0 : Nat) : Int) z1 : Nat) : Int) = _
  rw [Int.gcd_zero_left, Int.gcd_eq_natAbs_gcd_natAbs, Int.natAbs_natCast, ← Int.gcd_eq_natAbs_gcd_natAbs]
theorem lcm_law (z0 z1 : Int) : lcmv z0 z1 * gall [z0, z1] = (((z0 * z1).natAbs : Nat) : Int) := by
  rw [gall_two, lcmv, Int.natAbs_mul, ← Int.natCast_ediv, ← Int.natCast_mul, ← Int.natCast_mul]
  congr 1
  have h := Int.gcd_dvd_natAbs_left z0 z1
  obtain ⟨k, hk⟩ := h
  generalize Int.gcd z0 z1 = G at *
  rw [hk]
  rcases Nat.eq_zero_or_pos G with e | e
  · rw [e]
    simp
  · rw [Nat.mul_div_cancel_left _ e, Nat.mul_assoc, Nat.mul_comm z1.natAbs G, ← Nat.mul_assoc, Nat.mul_comm k G]
theorem lcm_small {z0 z1 : Int} (h0 : z0.natAbs < 10 ^ 60) (h1 : z1.natAbs < 10 ^ 60) : (lcmv z0 z1).natAbs < 10 ^ 120 := by
  have h := prod_small h0 h1
  rw [Int.natAbs_mul] at h
  rw [lcmv, ← Int.natCast_ediv, ← Int.natCast_mul, Int.natAbs_natCast]
  exact Nat.lt_of_le_of_lt (Nat.mul_le_mul_right _ (Nat.div_le_self _ _)) h

set_option maxHeartbeats 16000000 in
set_option maxRecDepth 100000 in
theorem gcds_walk (w : World) (A : Option Addr) (n c : Nat) (ts : List (List UInt8)) (h : Sl w 1 A n c (texts ts)) (hn : n ≤ 9223372036854775807) (hall : ∀ s ∈ ts, s.length ≤ 9223372036854775807) :
    Calls Tryd.prog 9 #[.slice A n c] w fun e w' => e = .returned (.bool true) ∧ Pu w w' := by
  have hanc := anchor_any w
  have hl : ts.length = n := by have := h.1; simpa using this
  have Hall := Lib.hid hall
  clear hall
  go_enter Tryd.func9, Tryd.ntmps9
  go_wp2_with fail
  refine hanc.mono ?_
  rintro e w1 ⟨rfl, p1⟩
  by_cases hbig : 8 < n
  · have d1 : decide ((n : Int) > 8) = true := by simp; omega
    have d2 : decide ((8 : Int) < (n : Int)) = true := by simp; omega
    go_wp2
    go_ret
    exact ⟨rfl, p1⟩
  · have d1 : decide ((n : Int) > 8) = false := by simp; omega
    have d2 : decide ((8 : Int) < (n : Int)) = false := by simp; omega
    have kG : Blk (w1.alloc (.cells #[.int .i64 0, .slice none 0 0] 39)) w1.heap.size 39 #[.int .i64 0, .slice none 0 0] := Blk.new _ _ _
    have pG : Pu w (w1.alloc (.cells #[.int .i64 0, .slice none 0 0] 39)) := p1.alloc _
    clear hanc
    go_wp2_with fail
    go_loopw [3, 21] (fun av iv ws => ∃ (i c1 : Nat) (A1 : Option Addr) (l : List Part) (σ : Int) (A2 : Option Addr) (n2 c2 : Nat), i ≤ n ∧ av = .slice A1 i c1 ∧ iv = .int .i64 (i : Int) ∧ OI ws (w1.heap.size + 1) A1 i c1 l ((ts.take i).map pres) ∧ Blk ws w1.heap.size 39 #[.int .i64 σ, .slice A2 n2 c2] ∧ RZ ws (.agg #[.int .i64 σ, .slice A2 n2 c2]) (gall ((ts.take i).map pres)) ∧ Pu w ws) (fun _ iv _ => n - (intOf iv).toNat)
    case atStart => exact ⟨0, 0, none, [], 0, none, 0, 0, Nat.zero_le _, rfl, rfl, OI.nil _ _, kG, RZ.zero _, pG⟩
    case round =>
      clear kG pG
      obtain ⟨i, c1, A1, l, σ, A2, n2, c2, hi, rfl, rfl, hO, kG, hg, hP⟩ := hrel
      have HG := Lib.hid hg
      have HO := Lib.hid hO
      clear hg hO
      by_cases hlt : i < n
      · obtain ⟨s, hsi⟩ : ∃ s, ts[i]? = some s := ⟨_, List.getElem?_eq_getElem (by omega)⟩
        obtain ⟨b, off, rfl, hbl, x0⟩ := texts_at (h.pu hP) hsi
        have hsl := Hall.out s (List.mem_of_getElem? hsi)
        have Hsi := Lib.hid hsi
        have hwi : IntKind.i64.wrap ((i : Int) + 1) = (i : Int) + 1 := IntWalk.i64_in _ (by omega)
        have hp1 := parse_new s wr
        have hp2 := fun W => rparse_any s W hsl
        have Hp2 := Lib.hid hp2
        clear hsi hp2
        go_wp2_with fail
        refine hp1.mono ?_
        rintro e u1 ⟨v1, rfl, hx, hbx, q1⟩
        obtain ⟨⟨gx, Ax, nx, cx⟩, rfl⟩ := part_of hx
        clear hp1 x0
        go_wp2_with fail
        refine (Hp2.out _).mono ?_
        rintro e u2 ⟨v2, rfl, hu, q2⟩
        obtain ⟨su, Au, nu, cu, rfl, -⟩ := hu.shape
        by_cases hpc : pcode s = 0
        · rw [hpc]
          have pU : Pu u2 (u2.alloc (.cells #[.int .i64 su, .slice Au nu cu] 39)) := (Pu.refl _).alloc _
          have kX : Blk (u1.alloc (.cells #[.bool gx, .slice Ax nx cx] 25)) u1.heap.size 25 #[.bool gx, .slice Ax nx cx] := Blk.new _ _ _
          have kX2 := kX.pu (q2.trans pU)
          have y0 : (u2.alloc (.cells #[.int .i64 su, .slice Au nu cu] 39)).cell? ⟨u1.heap.size, 0, none⟩ = some (.bool gx) := kX2.cell 0
          have y1 : (u2.alloc (.cells #[.int .i64 su, .slice Au nu cu] 39)).cell? ⟨u1.heap.size, 1, none⟩ = some (.slice Ax nx cx) := kX2.cell 1
          obtain ⟨U, hU⟩ : ∃ U, U = u2.alloc (.cells #[.int .i64 su, .slice Au nu cu] 39) := ⟨_, rfl⟩
          have hUs : U.heap.size = u2.heap.size + 1 := by rw [hU]; simp
          have kU : Blk U u2.heap.size 39 #[.int .i64 su, .slice Au nu cu] := by rw [hU]; exact Blk.new _ _ _
          rw [← hU] at pU kX2
          have PU := (q1.alloc (.cells #[.bool gx, .slice Ax nx cx] 25)).trans (q2.trans pU)
          have hsz := (hP.trans PU).size
          have hO2 := HO.out.pu PU
          have hG2 := HG.out.pu PU
          have kG2 := kG.pu PU
          have hPU := hP.trans PU
          have hszb : w1.heap.size + 1 ≤ U.heap.size := kG2.lt
          have hx2 : ZR U (Part.val (gx, Ax, nx, cx)) (pres s) := hx.pu (((Pu.refl _).alloc _).trans (q2.trans pU))
          have hu2 := hu.pu pU
          have hfar : Far (fun k => (Value.slice A1 i c1).ownBlock = some k) (gx, Ax, nx, cx) := Far.mono (Bey.far hbx) (fun k hk => (HO.out.own.lt k hk).2)
          have Hfar := Lib.hid hfar
          have Hx2 := Lib.hid hx2
          clear hfar hx2 kX hx hu q1 q2 pU PU hP kG hbx Hp2
          go_wp2_with (at_builtin; rw [← hU]; refine wpList_pushL eiZ rfl (.tmp 41) (.tmp 43) rfl #[.bool gx, .slice Ax nx cx] rfl (by simp [Value.oneCell']) rfl rfl hUs hO2.own (by simp [maxLen]; omega) (by omega) hszb ?_)
          intro g3 c3 w3 ho3 hg3 hw3
          rw [← hU] at hg3
          have hUB : (U.alloc (.cells #[.bool gx, .slice Ax nx cx] 25)).heap.size = U.heap.size + 1 := by simp
          have pB : Pu U (U.alloc (.cells #[.bool gx, .slice Ax nx cx] 25)) := (Pu.refl U).alloc _
          have hOB := hO2.pu pB
          have hO3 := OI.push hOB (Hx2.out.pu pB) Hfar.out ho3 hg3 (hw3.imp id (fun e => by rw [hUB]; omega))
          rw [← take_map_next pres Hsi.out] at hO3
          have hG3 := (hG2.pu pB).push hOB.own hg3
          have hu3 := (hu2.pu pB).push hOB.own hg3
          have kG3 := blk_pushT (kG2.pu pB) (by decide) hOB.own hg3
          have kU3 := blk_pushT (kU.pu pB) (by decide) hOB.own hg3
          have hP3 := pu_push (hPU.trans pB) hOB.own (by have := p1.size; omega) hg3
          have hgn : ((Int.gcd (gall ((ts.take i).map pres)) (pres s) : Nat) : Int) = gall ((ts.take (i + 1)).map pres) := by rw [take_map_next pres Hsi.out, gall_snoc]
          have bg : (gall ((ts.take i).map pres)).natAbs < 10 ^ 200 := gall_below (ten_pos 200) (fun z hz => by
            obtain ⟨s', _, rfl⟩ := List.mem_map.1 hz
            exact ten_up' (pres_small s') (by decide))
          have bs : (pres s).natAbs < 10 ^ 200 := ten_up' (pres_small s) (by decide)
          have hgc := rgcd_any _ _ _ _ w3 hG3 hu3 bg bs
          rw [hgn] at hgc
          have Hgc := Lib.hid hgc
          have HO3 := Lib.hid hO3
          have z0 : w3.cell? ⟨w1.heap.size, 0, none⟩ = some (.int .i64 σ) := kG3.cell 0
          have z1 : w3.cell? ⟨w1.heap.size, 1, none⟩ = some (.slice A2 n2 c2) := kG3.cell 1
          have z2 : w3.cell? ⟨u2.heap.size, 0, none⟩ = some (.int .i64 su) := kU3.cell 0
          have z3 : w3.cell? ⟨u2.heap.size, 1, none⟩ = some (.slice Au nu cu) := kU3.cell 1
          clear y0 y1 hO2 hG2 kG2 hPU hu2 kU kX2 hU hUs hszb hsz pB hOB hO3 hG3 hu3 kU3 hgn bg bs hgc ho3 hg3 hw3 Hfar Hx2
          go_wp2_with fail
          refine Hgc.out.mono ?_
          rintro e w4 ⟨v4, rfl, hg4, q4⟩
          obtain ⟨σ4, A4, n4, c4, rfl, -⟩ := hg4.shape
          have kG4 := kG3.pu q4
          have hO4 := HO3.out.pu q4
          have t0 : w4.cell? ⟨w1.heap.size, 0, none⟩ = some (.int .i64 σ) := kG4.cell 0
          have t1 : w4.cell? ⟨w1.heap.size, 1, none⟩ = some (.slice A2 n2 c2) := kG4.cell 1
          have f0 := kG4.frozen 0
          have f1 := kG4.frozen 1
          obtain ⟨kG5, fr5⟩ := over_z kG4 σ4 A4 n4 c4
          obtain ⟨_, _, rp, rz⟩ := store_rz kG4 σ4 A4 n4 c4
          have hO5 := hO4.frG kG4 (by simp) (by omega) fr5
          have hg5 := rz _ _ hg4
          have P5 := rp _ (hP3.trans q4) (by have := p1.size; omega)
          have HO5 := Lib.hid hO5
          have HG5 := Lib.hid hg5
          clear rp rz fr5 hO5 hg5 hO4 hg4 q4 kG3 hP3 HO3 Hgc z0 z1 z2 z3 HG HO kG4
          go_wp2
          go_roundw
          case rel => exact ⟨i + 1, c3, _, _, σ4, A4, n4, c4, by omega, rfl, by go_num, HO5.out, kG5, HG5.out, P5⟩
          case measure => simp [intOf]; omega
        · have d3 : (((pcode s : Nat) : Int) == 0) = false := by simp; omega
          have PF := ((hP.trans q1).alloc (.cells #[.bool gx, .slice Ax nx cx] 25)).trans (q2.alloc (.cells #[.int .i64 su, .slice Au nu cu] 39))
          go_wp2
          go_ret
          exact ⟨rfl, PF⟩
      · obtain rfl : i = n := by omega
        have hT : ts.take i = ts := List.take_of_length_le (by omega)
        rw [hT] at HO HG
        have hIL := HO.out.il
        have hG := HG.out
        clear hT HO HG
        obtain ⟨Z, hZ⟩ : ∃ Z, Z = ts.map pres := ⟨_, rfl⟩
        have hZb : ∀ z ∈ Z, z.natAbs < 10 ^ 60 := fun z hz => by
          rw [hZ] at hz
          obtain ⟨s', _, rfl⟩ := List.mem_map.1 hz
          exact pres_small s'
        have hZl : Z.length = i := by rw [hZ, List.length_map]; exact hl
        rw [← hZ] at hIL hG
        have HZb := Lib.hid hZb
        have hgc := Gcd_any A1 i c1 Z wr hIL (by omega) (fun z hz => sixty_up (HZb.out z hz) 1000 (by decide))
        clear hZ hZb
        go_wp2_with fail
        refine hgc.mono ?_
        rintro e u1 ⟨vd, rfl, hd, q1⟩
        obtain ⟨gd, Ad, nd, cd, rfl⟩ := hd.shape
        have pU : Pu u1 (u1.alloc (.cells #[.bool gd, .slice Ad nd cd] 25)) := (Pu.refl _).alloc _
        have kD : Blk (u1.alloc (.cells #[.bool gd, .slice Ad nd cd] 25)) u1.heap.size 25 #[.bool gd, .slice Ad nd cd] := Blk.new _ _ _
        have kG1 := kG.pu (q1.trans pU)
        have hG1 := hG.pu (q1.trans pU)
        have hd1 := hd.pu pU
        have hI1 := hIL.pu (q1.trans pU)
        have hP1 := hP.trans (q1.trans pU)
        have bd : (gall Z).natAbs < 10 ^ 60 := gall_below (ten_pos 60) HZb.out
        have Bd := Lib.hid bd
        clear hgc hIL hG hd kG hP q1 pU bd
        go_wp2_with fail
        generalize u1.alloc (.cells #[.bool gd, .slice Ad nd cd] 25) = U at *
        have hP : Pu U U.drew := (Pu.refl U).drew
        go_region_held3 (fun t => t.cell? ⟨u1.heap.size, 0, none⟩ = some (.bool gd) ∧ t.cell? ⟨u1.heap.size, 1, none⟩ = some (.slice Ad nd cd) ∧ t.cell? ⟨w1.heap.size, 0, none⟩ = some (.int .i64 σ) ∧ t.cell? ⟨w1.heap.size, 1, none⟩ = some (.slice A2 n2 c2))
          (first | exact ⟨(kD.pu hP).cell 0, (kD.pu hP).cell 1, (kG1.pu hP).cell 0, (kG1.pu hP).cell 1⟩ | go_keep)
          (first
            | (go_at_call 19; refine (string_any _ _ _ (hd1.pu hP) (sixty_up Bd.out 1000 (by decide))).mono ?_; rintro e u3 ⟨rfl, p8⟩; replace hP := hP.trans p8)
            | (go_at_call 23; refine (rtext_any _ _ _ (hG1.pu hP) (ten_up' Bd.out (by decide))).mono ?_; rintro e u4 ⟨rfl, p8⟩; replace hP := hP.trans p8))
        have hI2 := hI1.pu hP
        have hP2 := hP1.trans hP
        clear hI1 hP1 hP kD kG1 hG1 hd1
        by_cases h2 : i < 2
        · have d3 : decide ((i : Int) < 2) = true := by simp; omega
          go_wp2
          go_ret
          exact ⟨rfl, hP2⟩
        · have d3 : decide ((i : Int) < 2) = false := by simp; omega
          have i0 : (0 : Int) < (i : Int) := by omega
          have i1 : (1 : Int) < (i : Int) := by omega
          have j0 : 0 < i := by omega
          have j1 : 1 < i := by omega
          obtain ⟨z0, hz0⟩ : ∃ z, Z[0]? = some z := ⟨_, List.getElem?_eq_getElem (by omega)⟩
          obtain ⟨z1, hz1⟩ : ∃ z, Z[1]? = some z := ⟨_, List.getElem?_eq_getElem (by omega)⟩
          obtain ⟨b, off, g0, B0, m0, e0, rfl, hbl, x0, x1, hx⟩ := hI2.at_ hz0
          obtain ⟨b', off', g1, B1, m1, e1, hA, hbl', y0, y1, hy⟩ := hI2.at_ hz1
          injection hA with hA
          injection hA with hA1 hA2
          subst hA1 hA2
          have b0 := HZb.out z0 (List.mem_of_getElem? hz0)
          have b1 := HZb.out z1 (List.mem_of_getElem? hz1)
          have BB := Lib.hid (And.intro b0 b1)
          clear b0 b1 hz0 hz1 hbl' hI2
          simp only [Nat.zero_mul, Nat.add_zero, Nat.one_mul] at x0 x1 y0 y1
          go_wp2_with fail
          have hP : Pu u4 u4.drew := (Pu.refl u4).drew
          have hbne : b ≠ u4.heap.size := by omega
          go_region_held3 (fun t => t.cell? ⟨b, off, none⟩ = some (.bool g0) ∧ t.cell? ⟨b, off + 1, none⟩ = some (.slice B0 m0 e0) ∧ t.cell? ⟨b, off + 2, none⟩ = some (.bool g1) ∧ t.cell? ⟨b, off + 2 + 1, none⟩ = some (.slice B1 m1 e1))
            (first | exact ⟨hP.cellv x0, hP.cellv x1, hP.cellv y0, hP.cellv y1⟩ | exact ⟨(hP.alloc _).cellv x0, (hP.alloc _).cellv x1, (hP.alloc _).cellv y0, (hP.alloc _).cellv y1⟩ | exact ⟨two_far hbne (hP.cellv x0), two_far hbne (hP.cellv x1), two_far hbne (hP.cellv y0), two_far hbne (hP.cellv y1)⟩ | go_keep)
            (first
              | (go_at_call 35; refine (lcm_any _ _ z0 z1 _ (hx.pu (by with_reducible first | exact hP | exact hP.alloc _ | exact Pu.drew (Pu.alloc (Pu.refl _) _))) (hy.pu (by with_reducible first | exact hP | exact hP.alloc _ | exact Pu.drew (Pu.alloc (Pu.refl _) _))) (sixty_up BB.out.1 1000 (by decide)) (sixty_up BB.out.2 1000 (by decide))).mono ?_; rintro e u5 ⟨vm, rfl, hm, p9⟩; (first | (have kp := (Blk.new u4 25 #[.bool false, .slice none 0 0]).drew.pu p9; have kp0 := kp.cell 0; have kp1 := kp.cell 1; have kf0 := kp.frozen 0; have kf1 := kp.frozen 1) | skip); replace hP := Pu.trans (a := u4) (by with_reducible first | exact hP | exact hP.alloc _ | exact Pu.drew (Pu.alloc (Pu.refl _) _)) p9; obtain ⟨gm, Am, nm, cm, rfl⟩ := hm.shape))
          all_goals
            first
              | (show Exit.then _ _ Exit.normal _ (u5.alloc (.cells #[.bool gm, .slice Am nm cm] 25))
                 have pV : Pu u5 (u5.alloc (.cells #[.bool gm, .slice Am nm cm] 25)) := (Pu.refl _).alloc _
                 have kM : Blk (u5.alloc (.cells #[.bool gm, .slice Am nm cm] 25)) u5.heap.size 25 #[.bool gm, .slice Am nm cm] := Blk.new _ _ _
                 have hV := hP.trans pV
                 replace hm := hm.pu pV
                 replace hP2 := hP2.trans hV
                 replace hx := hx.pu hV
                 replace hy := hy.pu hV
                 replace x0 := hV.cellv x0
                 replace x1 := hV.cellv x1
                 replace y0 := hV.cellv y0
                 replace y1 := hV.cellv y1
                 clear p9 hP hV pV
                 generalize u5.heap.size = P at *
                 generalize u5.alloc (.cells #[.bool gm, .slice Am nm cm] 25) = V at *)
              | (show Exit.then _ _ Exit.normal _ ((u5.setCell ⟨u4.heap.size, 0, none⟩ (.bool gm)).setCell ⟨u4.heap.size, 1, none⟩ (.slice Am nm cm))
                 obtain ⟨kM, fM⟩ := over_n kp gm Am nm cm
                 obtain ⟨_, _, rz, rp⟩ := store_num kp gm Am nm cm
                 have hV := rp _ hP (Nat.le_refl _)
                 replace hm := rz _ _ hm
                 replace hP2 := hP2.trans hV
                 replace hx := hx.pu hV
                 replace hy := hy.pu hV
                 replace x0 := hV.cellv x0
                 replace x1 := hV.cellv x1
                 replace y0 := hV.cellv y0
                 replace y1 := hV.cellv y1
                 clear p9 hP hV rz rp fM kp kp0 kp1 kf0 kf1 hbne hbl
                 generalize (u5.setCell ⟨u4.heap.size, 0, none⟩ (.bool gm)).setCell ⟨u4.heap.size, 1, none⟩ (.slice Am nm cm) = V at *
                 generalize u4.heap.size = P at *)
            go_wp2_with fail
            have hP : Pu V V.drew := (Pu.refl V).drew
            have mM := kM.cell 0
            have mN := kM.cell 1
            have bm := lcm_small BB.out.1 BB.out.2
            have hmem : ∀ z ∈ [z0, z1], z.natAbs < 10 ^ 60 := fun z hz => by
              rcases List.mem_cons.1 hz with e | e
              · rw [e]; exact BB.out.1
              · rw [List.mem_singleton.1 e]; exact BB.out.2
            have HMem := Lib.hid hmem
            have bg : (gall [z0, z1]).natAbs < 10 ^ 60 := gall_below (ten_pos 60) hmem
            have bp := prod_small BB.out.1 BB.out.2
            have HM := Lib.hid (And.intro bm (And.intro bg bp))
            clear bm bg bp hmem
            go_region_held3 (fun t => t.cell? ⟨b, off, none⟩ = some (.bool g0) ∧ t.cell? ⟨b, off + 1, none⟩ = some (.slice B0 m0 e0) ∧ t.cell? ⟨b, off + 2, none⟩ = some (.bool g1) ∧ t.cell? ⟨b, off + 2 + 1, none⟩ = some (.slice B1 m1 e1) ∧ t.cell? ⟨P, 0, none⟩ = some (.bool gm) ∧ t.cell? ⟨P, 1, none⟩ = some (.slice Am nm cm))
              (first | exact ⟨hP.cellv x0, hP.cellv x1, hP.cellv y0, hP.cellv y1, hP.cellv mM, hP.cellv mN⟩ | exact ⟨(hP.alloc _).cellv x0, (hP.alloc _).cellv x1, (hP.alloc _).cellv y0, (hP.alloc _).cellv y1, (hP.alloc _).cellv mM, (hP.alloc _).cellv mN⟩ | go_keep)
              (first
                | (go_at_call 34; refine (Gcd_any _ 2 2 [z0, z1] _ ((IL.two V g0 g1 B0 B1 m0 e0 m1 e1 z0 z1 hx hy).pu ((Pu.refl _).drew)) (by decide) (fun z hz => sixty_up (HMem.out z hz) 1000 (by decide))).mono ?_; rintro e r1 ⟨vg, rfl, hgg, p9⟩; replace hP := Pu.trans (a := V) (((Pu.refl V).alloc _).drew) p9; obtain ⟨gg, Ag, ng, cg, rfl⟩ := hgg.shape)
                | (go_at_call_of 30 Am; refine (mul_any _ _ (lcmv z0 z1) (gall [z0, z1]) _ (hm.pu hP) hgg (hundred_up HM.out.1 20000 (by decide)) (sixty_up HM.out.2.1 20000 (by decide))).mono ?_; rintro e r2 ⟨vk, rfl, hk, p9⟩; replace hP := hP.trans p9; rw [lcm_law] at hk; obtain ⟨gk, Ak, nk, ck, rfl⟩ := hk.shape)
                | (go_at_call_of 30 B0; refine (mul_any _ _ z0 z1 _ (hx.pu hP) (hy.pu hP) (sixty_up BB.out.1 20000 (by decide)) (sixty_up BB.out.2 20000 (by decide))).mono ?_; rintro e r3 ⟨vp, rfl, hpp, p9⟩; replace hP := hP.trans p9; replace hk := hk.pu p9; obtain ⟨gp, Ap, np, cp, rfl⟩ := hpp.shape)
                | (go_at_call 32; refine (abs_any _ (z0 * z1) _ hpp (hundred_up HM.out.2.2 1000 (by decide))).mono ?_; rintro e r4 ⟨va, rfl, ha, p9⟩; replace hP := hP.trans p9; replace hk := hk.pu p9; obtain ⟨ga, Aa, na, ca, rfl⟩ := ha.shape)
                | (go_at_call 14; refine (cmp_any _ _ _ _ _ hk ha (hundred_up (by rw [Int.natAbs_natCast]; exact HM.out.2.2) 1000 (by decide)) (hundred_up (by rw [Int.natAbs_natCast]; exact HM.out.2.2) 1000 (by decide))).mono ?_; rintro e r5 ⟨rfl, p9⟩; replace hP := hP.trans p9; rw [cmpZ_self]))
            have PF := hP2.trans hP
            go_wp2
            go_ret
            exact ⟨rfl, PF⟩
end Go.Proofs.YtckfnbckoclhpaaDoor
