/- Terms: Rest, Plus of one. Terms: Names. Terms: Common. -/
import Derived.Test.YtckfnbckoclhpaaGreatDoorE13
import Derived.Deep.RegionHeld3
import Derived.Test.YtckfnbckoclhpaaGreatDoorC01
import Derived.Test.YtckfnbckoclhpaaGreatDoorE08
import Derived.Test.YtckfnbckoclhpaaGreatDoorC02
namespace Go.Proofs.YtckfnbckoclhpaaGreatDoor
section
set_option linter.unusedVariables false
open Go.RowKit
theorem trest_any (v : Value) (rest : Int) (fs : List (Key × Int)) (w : World) (h : TM w v rest fs) :
    Calls Tryz.prog 68 #[v] w fun e w' => ∃ v', e = .returned v' ∧ ZR w' v' rest ∧ Pu w w' := by
  obtain ⟨g, A, n, c, m, rfl⟩ := h.shape
  have hz := h.rest_
  have pA : Pu w ((w.alloc (.cells #[.bool g, .slice A n c, .pointer m] 33)).alloc (.cells #[.bool g, .slice A n c] 30)) := ((Pu.refl w).alloc _).alloc _
  have k : Blk ((w.alloc (.cells #[.bool g, .slice A n c, .pointer m] 33)).alloc (.cells #[.bool g, .slice A n c] 30)) (w.heap.size + 1) 30 #[.bool g, .slice A n c] := Blk.at_new _ _ _ (by simp)
  have r0 := k.cell 0
  have r1 := k.cell 1
  have HZ := Lib.hid (And.intro (hz.pu pA) pA)
  clear h hz pA
  go_enter Tryz.func68, Tryz.ntmps68
  go_wp2
  exact bodyPost_ret (v := .agg #[.bool g, .slice A n c]) (by simp [results, Tryz.results68, go_sem, r0, r1]) rfl ⟨_, rfl, HZ.out.1, HZ.out.2⟩
set_option maxHeartbeats 1600000 in
set_option maxRecDepth 100000 in
theorem tplus_any (v1 : Value) (r1 r2 : Int) (fs gs : List (Key × Int)) (K M : Nat) (w : World) (a : Nat) (g2 : Bool) (A2 : Option Addr) (n2 c2 : Nat) (m2 : Option Addr) (h1 : TM w v1 r1 fs)
    (ha : Blk w a 33 #[.bool g2, .slice A2 n2 c2, .pointer m2]) (h2 : TM w (.agg #[.bool g2, .slice A2 n2 c2, .pointer m2]) r2 gs)
    (hK : Upto K fs) (hM : Upto M gs) (hL : fs.length + gs.length < 30000) (hbig : K + 1100000 * M < 4294967296 ^ 30000) (hr1 : r1.natAbs < 4294967296 ^ 30000) (hr2 : r2.natAbs < 4294967296 ^ 30000) :
    Calls Tryz.prog 31 #[v1, .slice (some ⟨a, 0, none⟩) 1 1] w fun e w' => ∃ v, e = .returned v ∧ TMO w' w.heap.size v (r1 + r2 * 1) (addM fs gs 1) ∧ Pu w w' := by
  obtain ⟨g1, A1, n1, c1, m1, rfl⟩ := h1.shape
  have hadd : ∀ W v3, Pu w W → ZR W v3 1 → Calls Tryz.prog 62 #[.agg #[.bool g1, .slice A1 n1 c1, .pointer m1], .agg #[.bool g2, .slice A2 n2 c2, .pointer m2], v3] W fun e w' => ∃ v, e = .returned v ∧ TMO w' W.heap.size v (r1 + r2 * 1) (addM fs gs 1) ∧ Pu W w' := fun W v3 p hz =>
    tadd_own _ _ _ r1 r2 1 fs gs K M W (h1.pu p) (h2.pu p) hz hK (fun g hg => by
      have := hM g hg
      omega) hL hbig (up_one (by decide)) (fun g hg => Nat.lt_of_le_of_lt (Nat.le_trans (hM g hg) (by omega)) hbig) hr1 hr2
  have Hadd := Lib.hid hadd
  obtain ⟨W, hWe⟩ : ∃ W, W = (w.alloc (.cells #[.bool g1, .slice A1 n1 c1, .pointer m1] 33)).alloc (.cells #[.bool false, .slice none 0 0, .pointer none] 33) := ⟨_, rfl⟩
  have pW : Pu w W := by rw [hWe]; exact ((Pu.refl w).alloc _).alloc _
  have k1 : Blk W w.heap.size 33 #[.bool g1, .slice A1 n1 c1, .pointer m1] := by rw [hWe]; exact (Blk.new w _ _).alloc _
  have k4 : Blk W (w.heap.size + 1) 33 #[.bool false, .slice none 0 0, .pointer none] := by rw [hWe]; exact Blk.at_new _ _ _ (by simp)
  have hsz : W.heap.size = w.heap.size + 2 := by rw [hWe]; simp
  have hlt := ha.lt
  have ka := ha.pu pW
  have HWe := Lib.hid hWe
  clear hWe hadd h1 h2 hK hM hbig hr1 hr2 ha
  go_enter Tryz.func31, Tryz.ntmps31
  go_wp2_with fail
  rw [← HWe.out]
  go_loopw [9] (fun iv ws => ∃ (i : Nat) (g : Bool) (A : Option Addr) (n c : Nat) (m : Option Addr), i ≤ 1 ∧ iv = .int .i64 (i : Int) ∧ Blk ws w.heap.size 33 #[.bool g, .slice A n c, .pointer m] ∧ (i = 0 → (g, A, n, c, m) = (g1, A1, n1, c1, m1) ∧ Pu W ws) ∧ (i = 1 → TMO ws W.heap.size (.agg #[.bool g, .slice A n c, .pointer m]) (r1 + r2 * 1) (addM fs gs 1)) ∧ Fr (fun j => j = w.heap.size) W ws) (fun iv _ => 1 - (intOf iv).toNat)
  case atStart => exact ⟨0, g1, A1, n1, c1, m1, by omega, rfl, k1, fun _ => ⟨rfl, Pu.refl _⟩, fun e => by omega, Fr.refl _ _⟩
  case round =>
    obtain ⟨i, g, A, n, c, m, hi, rfl, kt, h0, h5, hF⟩ := hrel
    have l4 := k4.fr hF (by omega)
    by_cases hil : i = 0
    · obtain ⟨e, pR⟩ := h0 hil
      subst hil
      cases e
      have kr := ka.pu pR
      have x0 := kr.cell 0
      have x1 := kr.cell 1
      have x2 := kr.cell 2
      have hsr := pR.size
      clear h0 h5
      obtain ⟨U, hU⟩ : ∃ U, U = wr.alloc (.cells #[.bool g2, .slice A2 n2 c2, .pointer m2] 33) := ⟨_, rfl⟩
      have pB : Pu wr U := by rw [hU]; exact (Pu.refl _).alloc _
      have kB : Blk U wr.heap.size 33 #[.bool g2, .slice A2 n2 c2, .pointer m2] := by rw [hU]; exact Blk.new _ _ _
      have kT := kt.pu pB
      have HU := Lib.hid hU
      have hF2 := hF.pu pB
      have pRU := pR.trans pB
      have l5 := l4.pu pB
      clear hU kt kr l4 hF pR
      go_wp2_with fail
      rw [← HU.out]
      have hP : Pu U U.drew := (Pu.refl U).drew
      have d0 : U.cell? ⟨w.heap.size, 0, none⟩ = some (.bool g1) := kT.cell 0
      have d1 : U.cell? ⟨w.heap.size, 1, none⟩ = some (.slice A1 n1 c1) := kT.cell 1
      have d2 : U.cell? ⟨w.heap.size, 2, none⟩ = some (.pointer m1) := kT.cell 2
      have d3 : U.cell? ⟨wr.heap.size, 0, none⟩ = some (.bool g2) := kB.cell 0
      have d4 : U.cell? ⟨wr.heap.size, 1, none⟩ = some (.slice A2 n2 c2) := kB.cell 1
      have d5 : U.cell? ⟨wr.heap.size, 2, none⟩ = some (.pointer m2) := kB.cell 2
      go_region_with (first
        | (go_at_call 30; refine (from_any 1 _ (by decide) (by decide)).mono ?_; rintro e u2 ⟨v5, rfl, h5, p9⟩; replace hP := hP.trans p9; have z12 := hP.size; obtain ⟨g5, A5, m5, c5, rfl⟩ := h5.shape2; replace d0 := hP.cellv d0; replace d1 := hP.cellv d1; replace d2 := hP.cellv d2; replace d3 := hP.cellv d3; replace d4 := hP.cellv d4; replace d5 := hP.cellv d5)
        | (go_at_call 62; refine (Hadd.out _ _ ((pW.trans pRU).trans hP) h5).mono ?_; rintro e u3 ⟨v6, rfl, h6, p10⟩; replace hP := hP.trans p10; obtain ⟨g6, A6, m6, c6, q6, rfl⟩ := h6.tm.shape; have l4' := kT.pu hP; have ka0 := l4'.cell 0; have ka1 := l4'.cell 1; have ka2 := l4'.cell 2; have kf0 := l4'.frozen 0; have kf1 := l4'.frozen 1; have kf2 := l4'.frozen 2))
      all_goals
        obtain ⟨kB', fB, tB⟩ := over_t l4' g6 A6 m6 c6 q6
        have h7 := h6.frT fB (fun i e => by
          have e' : i = w.heap.size := e
          have := pRU.size
          omega) tB
        have h8 : TMO _ W.heap.size _ _ _ := h7.base_ (by have := pRU.size; omega)
        have f7 := (hF2.pu hP).trans fB
        clear fB tB h7 h6 l4' hP kT hF2 pRU
        go_wp2
        go_roundw
        case rel => exact ⟨1, g6, A6, m6, c6, q6, by omega, rfl, kB', fun e => by omega, fun _ => h8, f7⟩
        case measure => simp [intOf]
    · obtain rfl : i = 1 := by omega
      have ht := h5 rfl
      have y0 := kt.cell 0
      have y1 := kt.cell 1
      have y2 := kt.cell 2
      have z0 := l4.cell 0
      have z1 := l4.cell 1
      have z2 := l4.cell 2
      have f0 := l4.frozen 0
      have f1 := l4.frozen 1
      have f2 := l4.frozen 2
      obtain ⟨kB, fB, tB⟩ := over_t l4 g A n c m
      have h7 := (ht.frT fB (fun i e => by
        have e' : i = w.heap.size + 1 := e
        omega) tB).base_ (base' := w.heap.size) (by omega)
      have p7 := (pW.step hF (fun i e => by
        have e' : i = w.heap.size := e
        omega)).step fB (fun i e => by
        have e' : i = w.heap.size + 1 := e
        omega)
      have r0' := kB.cell 0
      have r1' := kB.cell 1
      have r2' := kB.cell 2
      have H7 := Lib.hid (And.intro h7 p7)
      clear kB fB tB h7 p7 ht h5 h0 kt l4
      go_wp2
      exact bodyPost_ret (v := .agg #[.bool g, .slice A n c, .pointer m]) (by simp [results, Tryz.results31, go_sem, r0', r1', r2']) rfl ⟨_, rfl, H7.out.1, H7.out.2⟩
end
section
set_option linter.unusedVariables false
open Go.RowKit
theorem eiText : ElemI Tryz.prog 50 9 (.string ByteArray.empty) 1 16 := ⟨Tryz.underlying50, by kernel_rfl, rfl, by decide⟩
def kts (l : List Key) : List Value := l.map fun k => Value.string ⟨k.toArray⟩
set_option maxHeartbeats 1600000 in
set_option maxRecDepth 100000 in
theorem tnames_any (v : Value) (rest : Int) (fs : List (Key × Int)) (w : World) (h : TM w v rest fs) :
    Calls Tryz.prog 58 #[v] w fun e w' => ∃ A n c, e = .returned (.slice A n c) ∧ w'.ownsRow w.heap.size 9 1 (.slice A n c) n (kts (fs.map (·.1))) ∧ n ≤ 1100000 ∧ Pu w w' := by
  obtain ⟨g, A, n, c, m, rfl⟩ := h.shape
  have pA : Pu w (w.alloc (.cells #[.bool g, .slice A n c, .pointer m] 33)) := (Pu.refl w).alloc _
  have hp := tpairs_any _ _ _ _ (h.pu pA)
  clear h
  go_enter Tryz.func58, Tryz.ntmps58
  go_wp2_with fail
  refine hp.mono ?_
  rintro e Wp ⟨A4, n4, c4, LG, rfl, hSl, hn4, hHG, hB4, p2⟩
  have PW := pA.trans p2
  have hks := hHG.keys
  have hLG : LG.length = n4 := lenZ hSl
  clear hB4 hHG p2 hp
  go_wp2_with fail
  go_loopw [3, 9] (fun o i wr => ∃ (j : Nat) (A' : Option Addr) (c' : Nat) (out : List Key), j ≤ n4 ∧ o = .slice A' j c' ∧ i = .int .i64 j ∧ out = (LG.take j).map (·.1) ∧ wr.ownsRow Wp.heap.size 9 1 (.slice A' j c') j (kts out) ∧ Pu Wp wr) (fun _ i _ => n4 - (intOf i).toNat)
  case atStart => exact ⟨0, none, 0, [], Nat.zero_le _, rfl, rfl, by simp, World.ownsRow_nil _ _ _ _, Pu.refl _⟩
  case round =>
    obtain ⟨j, A', c', out, hj, rfl, rfl, ho, hown, hPu⟩ := hrel
    have HO := Lib.hid ho
    clear ho
    have hsz := hPu.size
    by_cases hlt : j < n4
    · obtain ⟨p, hp⟩ : ∃ p, LG[j]? = some p := ⟨_, List.getElem?_eq_getElem (by omega)⟩
      obtain ⟨k, qg, qA, qn, qc⟩ := p
      obtain ⟨bb, off, rfl, hbl, x0, x1, x2⟩ := atZ (hSl.pu hPu) hp
      have Hp := Lib.hid hp
      clear hp
      have hP1 : Pu Wp (wr.alloc (.cells #[.string ⟨k.toArray⟩, .bool qg, .slice qA qn qc] 119)) := hPu.alloc _
      have hown0 : (wr.alloc (.cells #[.string ⟨k.toArray⟩, .bool qg, .slice qA qn qc] 119)).ownsRow Wp.heap.size 9 1 (.slice A' j c') j (kts out) := hown.alloc _
      have hsz1 := hP1.size
      have hwi : IntKind.i64.wrap ((j : Int) + 1) = (j : Int) + 1 := IntWalk.i64_in _ (by omega)
      clear hown
      go_wp2_with (at_builtin; refine wpList_pushAt eiText rfl _ _ rfl #[.string ⟨k.toArray⟩] rfl (by simp [Value.oneCell']) rfl rfl (by simp) hown0 (by simp [maxLen]; omega) (by omega) hsz1 ?_)
      intro A1 c1 w2 hown1 hg1
      have hP3 : Pu Wp w2 := pu_push hP1 hown0 (Nat.le_refl _) hg1
      clear hown0 hg1 hPu hP1 x0 x1 x2
      go_wp2
      go_roundw
      case rel => exact ⟨j + 1, A1, c1, out ++ [k], by omega, rfl, by go_num, by rw [HO.out, List.take_add_one, Hp.out]; simp, by simpa [kts] using hown1, hP3⟩
      case measure => simp [intOf]; omega
    · obtain rfl : j = n4 := by omega
      go_wp2
      go_ret
      have e1 : out = fs.map (·.1) := by rw [HO.out, List.take_of_length_le (by omega), hks]
      exact ⟨A', j, c', rfl, by rw [← e1]; exact own_base hown PW.size, hn4, PW.trans hPu⟩
end
section
set_option linter.unusedVariables false
open Go.RowKit
theorem HoldM.hold {w : World} {L : List (Key × Part)} {fs : List (Key × Int)} (h : HoldM w L fs) : Hold w (L.map (·.2)) (fs.map (·.2)) := by
  refine ⟨by simp [h.1], fun i q z h1 h2 => ?_⟩
  rw [List.getElem?_map, Option.map_eq_some_iff] at h1 h2
  obtain ⟨p, hp, rfl⟩ := h1
  obtain ⟨f, hf, rfl⟩ := h2
  exact (h.2 i p f hp hf).2
set_option maxHeartbeats 1600000 in
set_option maxRecDepth 100000 in
theorem tcommon_any (v : Value) (rest : Int) (fs : List (Key × Int)) (w : World) (h : TM w v rest fs) (hb : ∀ f ∈ fs, f.2.natAbs < 4294967296 ^ 40000) :
    Calls Tryz.prog 67 #[v] w fun e w' => ∃ v', e = .returned v' ∧ ZR w' v' (gall (fs.map (·.2))) ∧ Pu w w' := by
  obtain ⟨g, A, n, c, m, rfl⟩ := h.shape
  have pA : Pu w ((w.alloc (.cells #[.bool g, .slice A n c, .pointer m] 33)).alloc (.cells #[.bool false, .slice none 0 0] 30)) := ((Pu.refl w).alloc _).alloc _
  have kR : Blk ((w.alloc (.cells #[.bool g, .slice A n c, .pointer m] 33)).alloc (.cells #[.bool false, .slice none 0 0] 30)) (w.heap.size + 1) 30 #[.bool false, .slice none 0 0] := Blk.at_new _ _ _ (by simp)
  have hp := tpairs_any _ _ _ _ (h.pu pA)
  clear h
  go_enter Tryz.func67, Tryz.ntmps67
  go_wp2_with fail
  refine hp.mono ?_
  rintro e Wp ⟨A4, n4, c4, LG, rfl, hSl, hn4, hHG, hB4, p2⟩
  have PW := pA.trans p2
  have hks := hHG.keys
  have hLG : LG.length = n4 := lenZ hSl
  have kR1 := kR.pu p2
  have HHG := Lib.hid hHG.hold
  have Hb := Lib.hid hb
  clear hB4 hHG p2 hp kR hb
  go_wp2_with fail
  go_loopw [3, 9] (fun o i wr => ∃ (j : Nat) (A' : Option Addr) (c' : Nat) (out : List Part), j ≤ n4 ∧ o = .slice A' j c' ∧ i = .int .i64 j ∧ out = (LG.take j).map (·.2) ∧ wr.ownsRow Wp.heap.size 30 2 (.slice A' j c') j (ics out) ∧ Pu Wp wr) (fun _ i _ => n4 - (intOf i).toNat)
  case atStart => exact ⟨0, none, 0, [], Nat.zero_le _, rfl, rfl, by simp, World.ownsRow_nil _ _ _ _, Pu.refl _⟩
  case round =>
    obtain ⟨j, A', c', out, hj, rfl, rfl, ho, hown, hPu⟩ := hrel
    have HO := Lib.hid ho
    clear ho
    have hsz := hPu.size
    by_cases hlt : j < n4
    · obtain ⟨p, hp⟩ : ∃ p, LG[j]? = some p := ⟨_, List.getElem?_eq_getElem (by omega)⟩
      obtain ⟨k, qg, qA, qn, qc⟩ := p
      obtain ⟨bb, off, rfl, hbl, x0, x1, x2⟩ := atZ (hSl.pu hPu) hp
      have Hp := Lib.hid hp
      clear hp
      have hP1 : Pu Wp (wr.alloc (.cells #[.string ⟨k.toArray⟩, .bool qg, .slice qA qn qc] 119)) := hPu.alloc _
      have hown0 : (wr.alloc (.cells #[.string ⟨k.toArray⟩, .bool qg, .slice qA qn qc] 119)).ownsRow Wp.heap.size 30 2 (.slice A' j c') j (ics out) := hown.alloc _
      have hsz1 := hP1.size
      have hwi : IntKind.i64.wrap ((j : Int) + 1) = (j : Int) + 1 := IntWalk.i64_in _ (by omega)
      clear hown
      go_wp2_with (at_builtin; refine wpList_pushAt eiZ rfl _ _ rfl #[.bool qg, .slice qA qn qc] rfl (by simp [Value.oneCell']) rfl rfl (by simp) hown0 (by simp [maxLen]; omega) (by omega) hsz1 ?_)
      intro A1 c1 w2 hown1 hg1
      have hP3 : Pu Wp w2 := pu_push hP1 hown0 (Nat.le_refl _) hg1
      clear hown0 hg1 hPu hP1 x0 x1 x2
      go_wp2
      go_roundw
      case rel => exact ⟨j + 1, A1, c1, out ++ [(qg, qA, qn, qc)], by omega, rfl, by go_num, by rw [HO.out, List.take_add_one, Hp.out]; simp, by simpa [ics, Part.val] using hown1, hP3⟩
      case measure => simp [intOf]; omega
    · obtain rfl : j = n4 := by omega
      have e1 : out = LG.map (·.2) := by rw [HO.out, List.take_of_length_le (by omega)]
      have hil : IL wr A' j c' (fs.map (·.2)) := ⟨out, Sl.of_own hown, by rw [e1]; exact HHG.out.pu hPu⟩
      have hg := Gcd_any A' j c' (fs.map (·.2)) wr hil (by omega) (fun z hz => by
        obtain ⟨f, hf, rfl⟩ := List.mem_map.1 hz
        exact Hb.out f hf)
      have kR2 := kR1.pu hPu
      clear hown HO e1 hil
      go_wp2_with fail
      refine hg.mono ?_
      rintro e w3 ⟨v3, rfl, h3, p3⟩
      obtain ⟨wg, wA, wn, wc, rfl⟩ := h3.shape2
      have k3 := kR2.pu p3
      have c0 := k3.cell 0
      have c1 := k3.cell 1
      have f0 := k3.frozen 0
      have f1 := k3.frozen 1
      obtain ⟨kB, fB⟩ := over_n k3 wg wA wn wc
      obtain ⟨_, _, rz, rp⟩ := store_num k3 wg wA wn wc
      have hz9 := rz _ _ h3
      have hp9 := rp _ ((PW.trans hPu).trans p3) (by omega)
      have r0 := kB.cell 0
      have r1 := kB.cell 1
      have HZ := Lib.hid (And.intro hz9 hp9)
      clear kB fB rz rp hz9 hp9 k3 p3 h3 kR1 kR2
      go_wp2
      exact bodyPost_ret (v := .agg #[.bool wg, .slice wA wn wc]) (by simp [results, Tryz.results67, go_sem, r0, r1]) rfl ⟨_, rfl, HZ.out.1, HZ.out.2⟩
end
end Go.Proofs.YtckfnbckoclhpaaGreatDoor
