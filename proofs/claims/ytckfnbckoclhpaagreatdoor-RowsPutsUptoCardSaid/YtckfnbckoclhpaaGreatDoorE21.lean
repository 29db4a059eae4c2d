/- Rows: a pair's rows (printed by mkprows.py). -/
import Derived.Test.YtckfnbckoclhpaaGreatDoorE20
import Derived.Test.YtckfnbckoclhpaaGreatDoorE19
import Derived.Test.YtckfnbckoclhpaaGreatDoorE15
import Derived.Test.YtckfnbckoclhpaaGreatDoorC05
import Derived.Deep.RegionHeld3
import Derived.Deep.RegionLaw
namespace Go.Proofs.YtckfnbckoclhpaaGreatDoor
section
set_option linter.unusedVariables false
open Go.RowKit
theorem PairAt.seteq {N : Nat → Prop} {w : World} {base q : Nat} {g : Bool} {A : Option Addr} {n c : Nat} {m : Option Addr} {pu pl pe : Value} {p : Pr} (h : PairAt w base N q g A n c m pu pl pe p) {u : Value} {o : Option Int} (hu : NPt w N u o) : PairAt (w.setCell ⟨q, 5, none⟩ u) base N q g A n c m pu pl u { p with eq := o } :=
  have Q := h.qfset (i := 5) u
  ⟨h.blk.set_ 5 u, h.ge, h.tm.qf Q, h.u.qf Q, h.l.qf Q, hu.qf Q⟩
def RowsOf (w : World) (base q : Nat) (l : List RowM) (ok : Bool) (x : Ending) (w' : World) : Prop := ∃ A n c L, x = .returned (.tuple #[.slice A n c, .bool ok]) ∧ n ≤ 2 ∧ SlR w' A n c L ∧ HoldO w' base L l ∧ Beyond w.heap.size A ∧ Fr (fun k => k = q) w w'
theorem up4 {z : Int} (h : z.natAbs < 4294967296 ^ 30000) : z.natAbs < 4294967296 ^ 40000 := up_from (n := z.natAbs) (a := 30000) (b := 40000) h (by decide)
theorem up9 {z : Int} (h : z.natAbs < 4294967296 ^ 30000) : z.natAbs < 4294967296 ^ 90000 := up_from (n := z.natAbs) (a := 30000) (b := 90000) h (by decide)
theorem up_sum {a b : Int} (ha : a.natAbs < 4294967296 ^ 30000) (hb : b.natAbs < 4294967296 ^ 30000) : (a + b).natAbs < 4294967296 ^ 40000 := by
  have key : ∀ n : Nat, a.natAbs < 4294967296 ^ n → b.natAbs < 4294967296 ^ n → (a + b).natAbs < 4294967296 ^ (n + 1) := fun n h1 h2 => by
    rw [Nat.pow_succ]
    have := Int.natAbs_add_le a b
    generalize 4294967296 ^ n = x at *
    omega
  exact up_from (n := (a + b).natAbs) (a := 30000 + 1) (b := 40000) (key _ ha hb) (by decide)
theorem beyond_at {k b : Nat} (h : k ≤ b) : Beyond k (some ⟨b, 0, none⟩) := fun b' off e => by
  injection e with e
  injection e with e
  rw [← e]
  exact h
theorem one_row {g : Bool} {A : Option Addr} {n c : Nat} {m : Option Addr} {e : Bool} : ∀ u ∈ (#[.bool g, .slice A n c, .pointer m, .bool e] : Array Value).toList, u.oneCell' = true := RawR.cells_one ⟨g, A, n, c, m, e⟩
section
variable {base q : Nat} {p : Pr} {K : Nat}
theorem plus_num (fs : List (Key × Int)) (z : Int) (hU : Upto K fs) (hbig : K + 1100000 * K < 4294967296 ^ 30000) (hlen : fs.length < 30000) (hz : z.natAbs < 4294967296 ^ 30000) (V : World) (v1 : Value) (a : Nat) (gx : Bool) (Ax : Option Addr) (nx cx : Nat) (mx : Option Addr) (ht : TM V v1 0 fs) (ka : Blk V a 33 #[.bool gx, .slice Ax nx cx, .pointer mx]) (hx : TM V (.agg #[.bool gx, .slice Ax nx cx, .pointer mx]) z []) (hb : base ≤ V.heap.size) :
    Calls Tryz.prog 31 #[v1, .slice (some ⟨a, 0, none⟩) 1 1] V fun e w' => ∃ g A n c m, e = .returned (.agg #[.bool g, .slice A n c, .pointer m]) ∧ TMO w' base (.agg #[.bool g, .slice A n c, .pointer m]) z fs ∧ Pu V w' := by
  refine (tplus_any v1 0 z fs [] K 0 V a gx Ax nx cx mx ht ka hx hU (Upto.nil 0) (by simpa using hlen) (by
    rw [Nat.mul_zero, Nat.add_zero]
    exact Nat.lt_of_le_of_lt (Nat.le_add_right _ _) hbig) up_zero hz).mono ?_
  rintro e w' ⟨v, he, h, pp⟩
  rw [show (0 : Int) + z * 1 = z by omega] at h
  have h' : TMO w' V.heap.size v z fs := h
  obtain ⟨g, A, n, c, m, rfl⟩ := h'.tm.shape
  exact ⟨g, A, n, c, m, he, h'.base_ hb, pp⟩
set_option maxHeartbeats 8000000 in
set_option maxRecDepth 100000 in
theorem prows_eq (w : World) (g : Bool) (A : Option Addr) (n c : Nat) (m : Option Addr) (pu pl pe : Value) (h : PairAt w base (fun b => base ≤ b) q g A n c m pu pl pe p) (hb : base ≤ w.heap.size) (hU : Upto K p.fs) (hbig : K + 1100000 * K < 4294967296 ^ 30000) (hlen : p.fs.length < 30000) (hz : NZ p.fs)
    (hB : ∀ m, (p.up = some m ∨ p.lo = some m ∨ p.eq = some m) → m.natAbs < 4294967296 ^ 30000) (e : Int) (heq : p.eq = some e) :
    Calls Tryz.prog 37 #[ptr q] w (RowsOf w base q [⟨e, p.fs, true⟩] (boundM p e)) := by
  have hr := h.tm.tm.rise.1
  have Hplus := Lib.hid (fun z (hz : z.natAbs < 4294967296 ^ 30000) => plus_num (base := base) p.fs z hU hbig hlen hz)
  have Hplus2 := Lib.hid (fun z (hz : z.natAbs < 4294967296 ^ 30000) => plus_num (base := base) (mulM p.fs (-1)) z (mulM_upto hU) hbig (by rw [mulM_len]; exact hlen) hz)
  have Hturn := Lib.hid (show ∀ V v, base ≤ V.heap.size → TM V v 0 p.fs → Calls Tryz.prog 73 #[v] V fun e w' => ∃ g A n c m, e = .returned (.agg #[.bool g, .slice A n c, .pointer m]) ∧ TMO w' base (.agg #[.bool g, .slice A n c, .pointer m]) 0 (mulM p.fs (-1)) ∧ Pu V w' from fun V v hV ht => by
    refine (turned_any v 0 p.fs K V ht hU hlen (by
      exact Nat.lt_of_le_of_lt (Nat.le_add_left _ _) hbig) up_zero).mono ?_
    rintro e w' ⟨v, e1, ht, p'⟩
    rw [Int.zero_mul, addM_nil hr hz (by omega)] at ht
    obtain ⟨g, A, n, c, m, rfl⟩ := ht.tm.shape
    exact ⟨g, A, n, c, m, e1, ht.base_ hV, p'⟩)
  have hb0 := hb
  have HB2 := Lib.hid hB
  clear hU hbig hlen hz hr
  have he := h.e
  rw [heq] at he
  rcases he with ⟨_, h0⟩ | ⟨be, ge, Ae, ne, ce, z, e1, e2, hNe, kbe, hze⟩
  · cases h0
  injection e2 with e2
  subst e2 e1
  have Hze := Lib.hid (hB e (.inr (.inr heq)))
  have Heq := Lib.hid heq
  have c5 := h.blk.cell 5
  clear heq hB
  go_enter Tryz.func37, Tryz.ntmps37
  go_wp2_with fail
  have k0 : w.cell? ⟨q, 0, none⟩ = some (.bool g) := h.blk.cell 0
  have k1 : w.cell? ⟨q, 1, none⟩ = some (.slice A n c) := h.blk.cell 1
  have k2 : w.cell? ⟨q, 2, none⟩ = some (.pointer m) := h.blk.cell 2
  have k3 : w.cell? ⟨q, 5, none⟩ = some (.pointer (some ⟨be, 0, none⟩)) := h.blk.cell 5
  have k4 : w.cell? ⟨be, 0, none⟩ = some (.bool ge) := kbe.cell 0
  have k5 : w.cell? ⟨be, 1, none⟩ = some (.slice Ae ne ce) := kbe.cell 1
  have hP : Pu w w.drew := (Pu.refl w).drew
  have hbU : base ≤ w.heap.size := Nat.le_trans hb (Fr.refl (fun k => k = q) w).size
  go_region_held3 (fun t => t.cell? ⟨q, 0, none⟩ = some (.bool g) ∧ t.cell? ⟨q, 1, none⟩ = some (.slice A n c) ∧ t.cell? ⟨q, 2, none⟩ = some (.pointer m) ∧ t.cell? ⟨q, 5, none⟩ = some (.pointer (some ⟨be, 0, none⟩)) ∧ t.cell? ⟨be, 0, none⟩ = some (.bool ge) ∧ t.cell? ⟨be, 1, none⟩ = some (.slice Ae ne ce))
    (first | exact Keep6 k0 k1 k2 k3 k4 k5 (by repeat' (first | with_reducible exact hP | with_reducible exact Pu.refl _ | with_reducible refine Pu.drew ?_ | with_reducible refine Pu.alloc ?_ _)) | go_keep)
    (first
    | (go_at_call 32; refine (tnum_any _ _ _ (hze.pu hP)).mono ?_; rintro x u3 ⟨v6, rfl, h6, p10⟩; replace hP := hP.trans p10; obtain ⟨g6, A6, m6, c6, q6, rfl⟩ := h6.shape)
    | (go_at_call 31; refine (Hplus.out e Hze.out _ _ u3.heap.size g6 A6 m6 c6 q6 (h.tm.pu (hP.alloc _)).tm (Blk.new _ _ _) (h6.pu ((Pu.refl _).alloc _)) (Nat.le_trans hbU (hP.alloc _).size)).mono ?_; rintro x u4 ⟨g7, A7, n7, c7, q7, rfl, h7, p11⟩; replace hP := (hP.alloc _).trans p11; have z4 := hP.size)
    | (go_at_call 72; refine (bound_any base q g A n c m _ _ _ p e _ (h.pu (by with_reducible first | exact hP | exact hP.alloc _)) Heq.out HB2.out).mono ?_; rintro x u5 ⟨rfl, p12⟩; with_reducible (first | (have bR := (Blk.new u4 35 #[.bool g7, .slice A7 n7 c7, .pointer q7, .bool true]).pu p12) | skip); replace h7 := (h7.pu (by with_reducible first | exact Pu.refl _ | exact (Pu.refl _).alloc _)).pu p12; replace hP := Pu.trans (a := w) (by with_reducible first | exact hP | exact hP.alloc _) p12))
  all_goals
    have HH := Lib.hid (And.intro h7 hP)
    clear h7 hP
    go_wp2
    go_ret2
    first
      | exact ⟨_, 1, 1, [⟨g7, A7, n7, c7, q7, true⟩], rfl, by omega, Sl.of_blk bR 4 1 1 rfl (by omega), HoldO.one ⟨rfl, HH.out.1⟩, beyond_at (Nat.le_trans (Fr.refl (fun k => k = q) w).size z4), (Fr.refl (fun k => k = q) w).pu HH.out.2⟩
      | exact ⟨_, 1, 1, [⟨g7, A7, n7, c7, q7, true⟩], rfl, by omega, Sl.new _ _ _ 4 1 1 rfl (by omega), HoldO.one ⟨rfl, HH.out.1.pu ((Pu.refl _).alloc _)⟩, beyond_at (Nat.le_trans (Fr.refl (fun k => k = q) w).size HH.out.2.size), (Fr.refl (fun k => k = q) w).pu (HH.out.2.alloc _)⟩
set_option maxHeartbeats 8000000 in
set_option maxRecDepth 100000 in
theorem prows_none (w : World) (g : Bool) (A : Option Addr) (n c : Nat) (m : Option Addr) (pu pl pe : Value) (h : PairAt w base (fun b => base ≤ b) q g A n c m pu pl pe p) (hb : base ≤ w.heap.size) (hU : Upto K p.fs) (hbig : K + 1100000 * K < 4294967296 ^ 30000) (hlen : p.fs.length < 30000) (hz : NZ p.fs)
    (hB : ∀ m, (p.up = some m ∨ p.lo = some m ∨ p.eq = some m) → m.natAbs < 4294967296 ^ 30000) (heq : p.eq = none) (hup : p.up = none) (hlo : p.lo = none) :
    Calls Tryz.prog 37 #[ptr q] w (RowsOf w base q [] true) := by
  have hr := h.tm.tm.rise.1
  have Hplus := Lib.hid (fun z (hz : z.natAbs < 4294967296 ^ 30000) => plus_num (base := base) p.fs z hU hbig hlen hz)
  have Hplus2 := Lib.hid (fun z (hz : z.natAbs < 4294967296 ^ 30000) => plus_num (base := base) (mulM p.fs (-1)) z (mulM_upto hU) hbig (by rw [mulM_len]; exact hlen) hz)
  have Hturn := Lib.hid (show ∀ V v, base ≤ V.heap.size → TM V v 0 p.fs → Calls Tryz.prog 73 #[v] V fun e w' => ∃ g A n c m, e = .returned (.agg #[.bool g, .slice A n c, .pointer m]) ∧ TMO w' base (.agg #[.bool g, .slice A n c, .pointer m]) 0 (mulM p.fs (-1)) ∧ Pu V w' from fun V v hV ht => by
    refine (turned_any v 0 p.fs K V ht hU hlen (by
      exact Nat.lt_of_le_of_lt (Nat.le_add_left _ _) hbig) up_zero).mono ?_
    rintro e w' ⟨v, e1, ht, p'⟩
    rw [Int.zero_mul, addM_nil hr hz (by omega)] at ht
    obtain ⟨g, A, n, c, m, rfl⟩ := ht.tm.shape
    exact ⟨g, A, n, c, m, e1, ht.base_ hV, p'⟩)
  have hb0 := hb
  have HB2 := Lib.hid hB
  clear hU hbig hlen hz hr
  have he := h.e
  rw [heq] at he
  rcases he with ⟨e1, _⟩ | ⟨be, ge, Ae, ne, ce, z, e1, e2, hNe, kbe, hze⟩
  rotate_left
  · cases e2
  subst e1
  have hu := h.u
  rw [hup] at hu
  rcases hu with ⟨e1, _⟩ | ⟨bu, gu, Au, nu, cu, z, e1, e2, hNu, kbu, hzu⟩
  rotate_left
  · cases e2
  subst e1
  have hl := h.l
  rw [hlo] at hl
  rcases hl with ⟨e1, _⟩ | ⟨bl, gl, Al, nl, cl, z, e1, e2, hNl, kbl, hzl⟩
  rotate_left
  · cases e2
  subst e1
  have c3 := h.blk.cell 3
  have c4 := h.blk.cell 4
  have c5 := h.blk.cell 5
  clear heq hup hlo hB
  go_enter Tryz.func37, Tryz.ntmps37
  go_wp2
  go_ret2
  exact ⟨none, 0, 0, [], rfl, by omega, Sl.nil _ _ _ _, HoldO.nil _ _, Beyond.none _, Fr.refl _ _⟩
set_option maxHeartbeats 8000000 in
set_option maxRecDepth 100000 in
theorem prows_up (w : World) (g : Bool) (A : Option Addr) (n c : Nat) (m : Option Addr) (pu pl pe : Value) (h : PairAt w base (fun b => base ≤ b) q g A n c m pu pl pe p) (hb : base ≤ w.heap.size) (hU : Upto K p.fs) (hbig : K + 1100000 * K < 4294967296 ^ 30000) (hlen : p.fs.length < 30000) (hz : NZ p.fs)
    (hB : ∀ m, (p.up = some m ∨ p.lo = some m ∨ p.eq = some m) → m.natAbs < 4294967296 ^ 30000) (a : Int) (heq : p.eq = none) (hup : p.up = some a) (hlo : p.lo = none) :
    Calls Tryz.prog 37 #[ptr q] w (RowsOf w base q [⟨a, p.fs, false⟩] true) := by
  have hr := h.tm.tm.rise.1
  have Hplus := Lib.hid (fun z (hz : z.natAbs < 4294967296 ^ 30000) => plus_num (base := base) p.fs z hU hbig hlen hz)
  have Hplus2 := Lib.hid (fun z (hz : z.natAbs < 4294967296 ^ 30000) => plus_num (base := base) (mulM p.fs (-1)) z (mulM_upto hU) hbig (by rw [mulM_len]; exact hlen) hz)
  have Hturn := Lib.hid (show ∀ V v, base ≤ V.heap.size → TM V v 0 p.fs → Calls Tryz.prog 73 #[v] V fun e w' => ∃ g A n c m, e = .returned (.agg #[.bool g, .slice A n c, .pointer m]) ∧ TMO w' base (.agg #[.bool g, .slice A n c, .pointer m]) 0 (mulM p.fs (-1)) ∧ Pu V w' from fun V v hV ht => by
    refine (turned_any v 0 p.fs K V ht hU hlen (by
      exact Nat.lt_of_le_of_lt (Nat.le_add_left _ _) hbig) up_zero).mono ?_
    rintro e w' ⟨v, e1, ht, p'⟩
    rw [Int.zero_mul, addM_nil hr hz (by omega)] at ht
    obtain ⟨g, A, n, c, m, rfl⟩ := ht.tm.shape
    exact ⟨g, A, n, c, m, e1, ht.base_ hV, p'⟩)
  have hb0 := hb
  have HB2 := Lib.hid hB
  clear hU hbig hlen hz hr
  have he := h.e
  rw [heq] at he
  rcases he with ⟨e1, _⟩ | ⟨be, ge, Ae, ne, ce, z, e1, e2, hNe, kbe, hze⟩
  rotate_left
  · cases e2
  subst e1
  have hu := h.u
  rw [hup] at hu
  rcases hu with ⟨_, h0⟩ | ⟨bu, gu, Au, nu, cu, z, e1, e2, hNu, kbu, hzu⟩
  · cases h0
  injection e2 with e2
  subst e2 e1
  have hl := h.l
  rw [hlo] at hl
  rcases hl with ⟨e1, _⟩ | ⟨bl, gl, Al, nl, cl, z, e1, e2, hNl, kbl, hzl⟩
  rotate_left
  · cases e2
  subst e1
  have Hzu := Lib.hid (hB a (.inl hup))
  have c3 := h.blk.cell 3
  have c4 := h.blk.cell 4
  have c5 := h.blk.cell 5
  clear heq hup hlo hB
  go_enter Tryz.func37, Tryz.ntmps37
  go_wp2_with fail
  have k0 : w.cell? ⟨q, 0, none⟩ = some (.bool g) := h.blk.cell 0
  have k1 : w.cell? ⟨q, 1, none⟩ = some (.slice A n c) := h.blk.cell 1
  have k2 : w.cell? ⟨q, 2, none⟩ = some (.pointer m) := h.blk.cell 2
  have k3 : w.cell? ⟨q, 3, none⟩ = some (.pointer (some ⟨bu, 0, none⟩)) := h.blk.cell 3
  have k4 : w.cell? ⟨bu, 0, none⟩ = some (.bool gu) := kbu.cell 0
  have k5 : w.cell? ⟨bu, 1, none⟩ = some (.slice Au nu cu) := kbu.cell 1
  have hP : Pu w w.drew := (Pu.refl w).drew
  have hbU := hb
  go_region_held3 (fun t => t.cell? ⟨q, 0, none⟩ = some (.bool g) ∧ t.cell? ⟨q, 1, none⟩ = some (.slice A n c) ∧ t.cell? ⟨q, 2, none⟩ = some (.pointer m) ∧ t.cell? ⟨q, 3, none⟩ = some (.pointer (some ⟨bu, 0, none⟩)) ∧ t.cell? ⟨bu, 0, none⟩ = some (.bool gu) ∧ t.cell? ⟨bu, 1, none⟩ = some (.slice Au nu cu))
    (first | exact Keep6 k0 k1 k2 k3 k4 k5 (by repeat' (first | with_reducible exact hP | with_reducible exact Pu.refl _ | with_reducible refine Pu.drew ?_ | with_reducible refine Pu.alloc ?_ _)) | go_keep)
    (first
    | (go_at_call 32; refine (tnum_any _ _ _ (hzu.pu hP)).mono ?_; rintro x u3 ⟨v6, rfl, h6, p10⟩; replace hP := hP.trans p10; obtain ⟨g6, A6, m6, c6, q6, rfl⟩ := h6.shape)
    | (go_at_call 31; refine (Hplus.out a Hzu.out _ _ u3.heap.size g6 A6 m6 c6 q6 (h.tm.pu (hP.alloc _)).tm (Blk.new _ _ _) (h6.pu ((Pu.refl _).alloc _)) (Nat.le_trans hbU (hP.alloc _).size)).mono ?_; rintro x u4 ⟨g7, A7, n7, c7, q7, rfl, h7, p11⟩; replace hP := (hP.alloc _).trans p11; have z4 := hP.size; have ho0 := World.ownsRow_nil u4 w.heap.size 35 4)
    | (refine step_push eiRow rfl (.tmp 77) (.tmp 92) rfl #[.bool g7, .slice A7 n7 c7, .pointer q7, .bool false] rfl one_row (by simp [Act.eval]) (by simp [Act.eval]) ho0 (by simp [maxLen]) (by omega) hP.size ?_; intro A8 c8 w8 ho8 hg8; replace h7 := h7.qf (grown_qf ho0 hb hg8); replace hP := pu_push hP ho0 (Nat.le_refl _) hg8))
  all_goals
    have c4' := hP.cellv c4
    have HH := Lib.hid (And.intro h7 (And.intro ho8 hP))
    clear h7 ho8 hP
    go_wp2
    go_ret2
    exact ⟨A8, _, c8, [⟨g7, A7, n7, c7, q7, false⟩], rfl, by omega, Sl.of_own HH.out.2.1, HoldO.one ⟨rfl, HH.out.1⟩, Beyond.own HH.out.2.1, HH.out.2.2.fr⟩
set_option maxHeartbeats 8000000 in
set_option maxRecDepth 100000 in
theorem prows_lo (w : World) (g : Bool) (A : Option Addr) (n c : Nat) (m : Option Addr) (pu pl pe : Value) (h : PairAt w base (fun b => base ≤ b) q g A n c m pu pl pe p) (hb : base ≤ w.heap.size) (hU : Upto K p.fs) (hbig : K + 1100000 * K < 4294967296 ^ 30000) (hlen : p.fs.length < 30000) (hz : NZ p.fs)
    (hB : ∀ m, (p.up = some m ∨ p.lo = some m ∨ p.eq = some m) → m.natAbs < 4294967296 ^ 30000) (b : Int) (heq : p.eq = none) (hup : p.up = none) (hlo : p.lo = some b) :
    Calls Tryz.prog 37 #[ptr q] w (RowsOf w base q [⟨b, mulM p.fs (-1), false⟩] true) := by
  have hr := h.tm.tm.rise.1
  have Hplus := Lib.hid (fun z (hz : z.natAbs < 4294967296 ^ 30000) => plus_num (base := base) p.fs z hU hbig hlen hz)
  have Hplus2 := Lib.hid (fun z (hz : z.natAbs < 4294967296 ^ 30000) => plus_num (base := base) (mulM p.fs (-1)) z (mulM_upto hU) hbig (by rw [mulM_len]; exact hlen) hz)
  have Hturn := Lib.hid (show ∀ V v, base ≤ V.heap.size → TM V v 0 p.fs → Calls Tryz.prog 73 #[v] V fun e w' => ∃ g A n c m, e = .returned (.agg #[.bool g, .slice A n c, .pointer m]) ∧ TMO w' base (.agg #[.bool g, .slice A n c, .pointer m]) 0 (mulM p.fs (-1)) ∧ Pu V w' from fun V v hV ht => by
    refine (turned_any v 0 p.fs K V ht hU hlen (by
      exact Nat.lt_of_le_of_lt (Nat.le_add_left _ _) hbig) up_zero).mono ?_
    rintro e w' ⟨v, e1, ht, p'⟩
    rw [Int.zero_mul, addM_nil hr hz (by omega)] at ht
    obtain ⟨g, A, n, c, m, rfl⟩ := ht.tm.shape
    exact ⟨g, A, n, c, m, e1, ht.base_ hV, p'⟩)
  have hb0 := hb
  have HB2 := Lib.hid hB
  clear hU hbig hlen hz hr
  have he := h.e
  rw [heq] at he
  rcases he with ⟨e1, _⟩ | ⟨be, ge, Ae, ne, ce, z, e1, e2, hNe, kbe, hze⟩
  rotate_left
  · cases e2
  subst e1
  have hu := h.u
  rw [hup] at hu
  rcases hu with ⟨e1, _⟩ | ⟨bu, gu, Au, nu, cu, z, e1, e2, hNu, kbu, hzu⟩
  rotate_left
  · cases e2
  subst e1
  have hl := h.l
  rw [hlo] at hl
  rcases hl with ⟨_, h0⟩ | ⟨bl, gl, Al, nl, cl, z, e1, e2, hNl, kbl, hzl⟩
  · cases h0
  injection e2 with e2
  subst e2 e1
  have Hzl := Lib.hid (hB b (.inr (.inl hlo)))
  have c3 := h.blk.cell 3
  have c4 := h.blk.cell 4
  have c5 := h.blk.cell 5
  clear heq hup hlo hB
  go_enter Tryz.func37, Tryz.ntmps37
  go_wp2_with fail
  have k0 : w.cell? ⟨q, 0, none⟩ = some (.bool g) := h.blk.cell 0
  have k1 : w.cell? ⟨q, 1, none⟩ = some (.slice A n c) := h.blk.cell 1
  have k2 : w.cell? ⟨q, 2, none⟩ = some (.pointer m) := h.blk.cell 2
  have k3 : w.cell? ⟨q, 4, none⟩ = some (.pointer (some ⟨bl, 0, none⟩)) := h.blk.cell 4
  have k4 : w.cell? ⟨bl, 0, none⟩ = some (.bool gl) := kbl.cell 0
  have k5 : w.cell? ⟨bl, 1, none⟩ = some (.slice Al nl cl) := kbl.cell 1
  have hP : Pu w w.drew := (Pu.refl w).drew
  have hbU := hb
  go_region_held3 (fun t => t.cell? ⟨q, 0, none⟩ = some (.bool g) ∧ t.cell? ⟨q, 1, none⟩ = some (.slice A n c) ∧ t.cell? ⟨q, 2, none⟩ = some (.pointer m) ∧ t.cell? ⟨q, 4, none⟩ = some (.pointer (some ⟨bl, 0, none⟩)) ∧ t.cell? ⟨bl, 0, none⟩ = some (.bool gl) ∧ t.cell? ⟨bl, 1, none⟩ = some (.slice Al nl cl))
    (first | exact Keep6 k0 k1 k2 k3 k4 k5 (by repeat' (first | with_reducible exact hP | with_reducible exact Pu.refl _ | with_reducible refine Pu.drew ?_ | with_reducible refine Pu.alloc ?_ _)) | go_keep)
    (first
    | (go_at_call 73; refine (Hturn.out _ _ (Nat.le_trans hb hP.size) (h.tm.pu hP).tm).mono ?_; rintro x u2 ⟨g5, A5, n5, c5, q5, rfl, h5, p9⟩; replace hP := hP.trans p9)
    | (go_at_call 32; refine (tnum_any _ _ _ (hzl.pu hP)).mono ?_; rintro x u3 ⟨v6, rfl, h6, p10⟩; replace hP := hP.trans p10; replace h5 := h5.pu p10; obtain ⟨g6, A6, m6, c6, q6, rfl⟩ := h6.shape)
    | (go_at_call 31; refine (Hplus2.out b Hzl.out _ _ u3.heap.size g6 A6 m6 c6 q6 (h5.pu ((Pu.refl _).alloc _)).tm (Blk.new _ _ _) (h6.pu ((Pu.refl _).alloc _)) (Nat.le_trans hbU (hP.alloc _).size)).mono ?_; rintro x u4 ⟨g7, A7, n7, c7, q7, rfl, h7, p11⟩; replace hP := (hP.alloc _).trans p11; have ho0 := World.ownsRow_nil u4 w.heap.size 35 4)
    | (refine step_push eiRow rfl (.tmp 99) (.tmp 115) rfl #[.bool g7, .slice A7 n7 c7, .pointer q7, .bool false] rfl one_row (by simp [Act.eval]) (by simp [Act.eval]) ho0 (by simp [maxLen]) (by omega) hP.size ?_; intro A9 c9 w9 ho9 hg9; replace h7 := h7.qf (grown_qf ho0 hb hg9); replace hP := pu_push hP ho0 (Nat.le_refl _) hg9))
  all_goals
    have HH := Lib.hid (And.intro h7 (And.intro ho9 hP))
    clear h7 ho9 hP
    go_wp2
    go_ret2
    exact ⟨A9, _, c9, [⟨g7, A7, n7, c7, q7, false⟩], rfl, by omega, Sl.of_own HH.out.2.1, HoldO.one ⟨rfl, HH.out.1⟩, Beyond.own HH.out.2.1, HH.out.2.2.fr⟩
set_option maxHeartbeats 8000000 in
set_option maxRecDepth 100000 in
theorem prows_bad (w : World) (g : Bool) (A : Option Addr) (n c : Nat) (m : Option Addr) (pu pl pe : Value) (h : PairAt w base (fun b => base ≤ b) q g A n c m pu pl pe p) (hb : base ≤ w.heap.size) (hU : Upto K p.fs) (hbig : K + 1100000 * K < 4294967296 ^ 30000) (hlen : p.fs.length < 30000) (hz : NZ p.fs)
    (hB : ∀ m, (p.up = some m ∨ p.lo = some m ∨ p.eq = some m) → m.natAbs < 4294967296 ^ 30000) (a b : Int) (heq : p.eq = none) (hup : p.up = some a) (hlo : p.lo = some b) (hs : a + b > 0) :
    Calls Tryz.prog 37 #[ptr q] w (RowsOf w base q [] false) := by
  have hr := h.tm.tm.rise.1
  have Hplus := Lib.hid (fun z (hz : z.natAbs < 4294967296 ^ 30000) => plus_num (base := base) p.fs z hU hbig hlen hz)
  have Hplus2 := Lib.hid (fun z (hz : z.natAbs < 4294967296 ^ 30000) => plus_num (base := base) (mulM p.fs (-1)) z (mulM_upto hU) hbig (by rw [mulM_len]; exact hlen) hz)
  have Hturn := Lib.hid (show ∀ V v, base ≤ V.heap.size → TM V v 0 p.fs → Calls Tryz.prog 73 #[v] V fun e w' => ∃ g A n c m, e = .returned (.agg #[.bool g, .slice A n c, .pointer m]) ∧ TMO w' base (.agg #[.bool g, .slice A n c, .pointer m]) 0 (mulM p.fs (-1)) ∧ Pu V w' from fun V v hV ht => by
    refine (turned_any v 0 p.fs K V ht hU hlen (by
      exact Nat.lt_of_le_of_lt (Nat.le_add_left _ _) hbig) up_zero).mono ?_
    rintro e w' ⟨v, e1, ht, p'⟩
    rw [Int.zero_mul, addM_nil hr hz (by omega)] at ht
    obtain ⟨g, A, n, c, m, rfl⟩ := ht.tm.shape
    exact ⟨g, A, n, c, m, e1, ht.base_ hV, p'⟩)
  have hb0 := hb
  have HB2 := Lib.hid hB
  clear hU hbig hlen hz hr
  have he := h.e
  rw [heq] at he
  rcases he with ⟨e1, _⟩ | ⟨be, ge, Ae, ne, ce, z, e1, e2, hNe, kbe, hze⟩
  rotate_left
  · cases e2
  subst e1
  have hu := h.u
  rw [hup] at hu
  rcases hu with ⟨_, h0⟩ | ⟨bu, gu, Au, nu, cu, z, e1, e2, hNu, kbu, hzu⟩
  · cases h0
  injection e2 with e2
  subst e2 e1
  have hl := h.l
  rw [hlo] at hl
  rcases hl with ⟨_, h0⟩ | ⟨bl, gl, Al, nl, cl, z, e1, e2, hNl, kbl, hzl⟩
  · cases h0
  injection e2 with e2
  subst e2 e1
  have Hzu := Lib.hid (hB a (.inl hup))
  have Hzl := Lib.hid (hB b (.inr (.inl hlo)))
  have Heq := Lib.hid heq
  have hsg : (a + b).sign = 1 := Int.sign_eq_one_of_pos hs
  have Hadd := Lib.hid (fun V r (kr : Blk V r 30 #[.bool gl, .slice Al nl cl]) (pp : Pu w V) => addv_any (.agg #[.bool gu, .slice Au nu cu]) (.agg #[.bool gl, .slice Al nl cl]) a b r V (hzu.pu pp) (hzl.pu pp) (up9 Hzu.out) (up9 Hzl.out) kr)
  have Hsign := Lib.hid (fun V v (hv : ZR V v (a + b)) => sign_any v (a + b) V hv (up_sum Hzu.out Hzl.out))
  rw [hsg] at Hsign
  have Hs := Lib.hid hs
  have c3 := h.blk.cell 3
  have c4 := h.blk.cell 4
  have c5 := h.blk.cell 5
  clear heq hup hlo hB hsg hs
  go_enter Tryz.func37, Tryz.ntmps37
  go_wp2_with fail
  have k0 : w.cell? ⟨q, 3, none⟩ = some (.pointer (some ⟨bu, 0, none⟩)) := h.blk.cell 3
  have k1 : w.cell? ⟨bu, 0, none⟩ = some (.bool gu) := kbu.cell 0
  have k2 : w.cell? ⟨bu, 1, none⟩ = some (.slice Au nu cu) := kbu.cell 1
  have k3 : w.cell? ⟨q, 4, none⟩ = some (.pointer (some ⟨bl, 0, none⟩)) := h.blk.cell 4
  have k4 : w.cell? ⟨bl, 0, none⟩ = some (.bool gl) := kbl.cell 0
  have k5 : w.cell? ⟨bl, 1, none⟩ = some (.slice Al nl cl) := kbl.cell 1
  have hP : Pu w w.drew := (Pu.refl w).drew
  go_region_held3 (fun t => t.cell? ⟨q, 3, none⟩ = some (.pointer (some ⟨bu, 0, none⟩)) ∧ t.cell? ⟨bu, 0, none⟩ = some (.bool gu) ∧ t.cell? ⟨bu, 1, none⟩ = some (.slice Au nu cu) ∧ t.cell? ⟨q, 4, none⟩ = some (.pointer (some ⟨bl, 0, none⟩)) ∧ t.cell? ⟨bl, 0, none⟩ = some (.bool gl) ∧ t.cell? ⟨bl, 1, none⟩ = some (.slice Al nl cl))
    (first | exact Keep6 k0 k1 k2 k3 k4 k5 (by repeat' (first | with_reducible exact hP | with_reducible exact Pu.refl _ | with_reducible refine Pu.drew ?_ | with_reducible refine Pu.alloc ?_ _)) | go_keep)
    (first
    | (go_at_call 49; refine (Hadd.out _ _ (Blk.new _ _ _) (hP.alloc _)).mono ?_; rintro x u1 ⟨v5, rfl, h5, p9⟩; replace hP := (hP.alloc _).trans p9; obtain ⟨g5, A5, n5, c5', rfl⟩ := h5.shape2)
    | (go_at_call 15; refine (Hsign.out _ _ h5).mono ?_; rintro x u8 ⟨rfl, p10⟩; replace hP := hP.trans p10))
  all_goals
    clear h5 k0 k1 k2 k3 k4 k5
    have HP := Lib.hid hP
    clear hP
    go_wp2
    go_ret2
    exact ⟨none, 0, 0, [], rfl, by omega, Sl.nil _ _ _ _, HoldO.nil _ _, Beyond.none _, HP.out.fr⟩
set_option maxHeartbeats 8000000 in
set_option maxRecDepth 100000 in
theorem prows_meet (w : World) (g : Bool) (A : Option Addr) (n c : Nat) (m : Option Addr) (pu pl pe : Value) (h : PairAt w base (fun b => base ≤ b) q g A n c m pu pl pe p) (hb : base ≤ w.heap.size) (hU : Upto K p.fs) (hbig : K + 1100000 * K < 4294967296 ^ 30000) (hlen : p.fs.length < 30000) (hz : NZ p.fs)
    (hB : ∀ m, (p.up = some m ∨ p.lo = some m ∨ p.eq = some m) → m.natAbs < 4294967296 ^ 30000) (a b : Int) (heq : p.eq = none) (hup : p.up = some a) (hlo : p.lo = some b) (hs : a + b = 0) :
    Calls Tryz.prog 37 #[ptr q] w (RowsOf w base q [⟨a, p.fs, true⟩] (boundM p a)) := by
  have hr := h.tm.tm.rise.1
  have Hplus := Lib.hid (fun z (hz : z.natAbs < 4294967296 ^ 30000) => plus_num (base := base) p.fs z hU hbig hlen hz)
  have Hplus2 := Lib.hid (fun z (hz : z.natAbs < 4294967296 ^ 30000) => plus_num (base := base) (mulM p.fs (-1)) z (mulM_upto hU) hbig (by rw [mulM_len]; exact hlen) hz)
  have Hturn := Lib.hid (show ∀ V v, base ≤ V.heap.size → TM V v 0 p.fs → Calls Tryz.prog 73 #[v] V fun e w' => ∃ g A n c m, e = .returned (.agg #[.bool g, .slice A n c, .pointer m]) ∧ TMO w' base (.agg #[.bool g, .slice A n c, .pointer m]) 0 (mulM p.fs (-1)) ∧ Pu V w' from fun V v hV ht => by
    refine (turned_any v 0 p.fs K V ht hU hlen (by
      exact Nat.lt_of_le_of_lt (Nat.le_add_left _ _) hbig) up_zero).mono ?_
    rintro e w' ⟨v, e1, ht, p'⟩
    rw [Int.zero_mul, addM_nil hr hz (by omega)] at ht
    obtain ⟨g, A, n, c, m, rfl⟩ := ht.tm.shape
    exact ⟨g, A, n, c, m, e1, ht.base_ hV, p'⟩)
  have hb0 := hb
  have HB2 := Lib.hid hB
  clear hU hbig hlen hz hr
  have he := h.e
  rw [heq] at he
  rcases he with ⟨e1, _⟩ | ⟨be, ge, Ae, ne, ce, z, e1, e2, hNe, kbe, hze⟩
  rotate_left
  · cases e2
  subst e1
  have hu := h.u
  rw [hup] at hu
  rcases hu with ⟨_, h0⟩ | ⟨bu, gu, Au, nu, cu, z, e1, e2, hNu, kbu, hzu⟩
  · cases h0
  injection e2 with e2
  subst e2 e1
  have hl := h.l
  rw [hlo] at hl
  rcases hl with ⟨_, h0⟩ | ⟨bl, gl, Al, nl, cl, z, e1, e2, hNl, kbl, hzl⟩
  · cases h0
  injection e2 with e2
  subst e2 e1
  have Hzu := Lib.hid (hB a (.inl hup))
  have Hzl := Lib.hid (hB b (.inr (.inl hlo)))
  have Heq := Lib.hid heq
  have hsg : (a + b).sign = 0 := by rw [hs]; rfl
  have Hadd := Lib.hid (fun V r (kr : Blk V r 30 #[.bool gl, .slice Al nl cl]) (pp : Pu w V) => addv_any (.agg #[.bool gu, .slice Au nu cu]) (.agg #[.bool gl, .slice Al nl cl]) a b r V (hzu.pu pp) (hzl.pu pp) (up9 Hzu.out) (up9 Hzl.out) kr)
  have Hsign := Lib.hid (fun V v (hv : ZR V v (a + b)) => sign_any v (a + b) V hv (up_sum Hzu.out Hzl.out))
  rw [hsg] at Hsign
  have Hs := Lib.hid hs
  have c3 := h.blk.cell 3
  have c4 := h.blk.cell 4
  have c5 := h.blk.cell 5
  clear heq hup hlo hB hsg hs
  go_enter Tryz.func37, Tryz.ntmps37
  go_wp2_with fail
  have k0 : w.cell? ⟨q, 3, none⟩ = some (.pointer (some ⟨bu, 0, none⟩)) := h.blk.cell 3
  have k1 : w.cell? ⟨bu, 0, none⟩ = some (.bool gu) := kbu.cell 0
  have k2 : w.cell? ⟨bu, 1, none⟩ = some (.slice Au nu cu) := kbu.cell 1
  have k3 : w.cell? ⟨q, 4, none⟩ = some (.pointer (some ⟨bl, 0, none⟩)) := h.blk.cell 4
  have k4 : w.cell? ⟨bl, 0, none⟩ = some (.bool gl) := kbl.cell 0
  have k5 : w.cell? ⟨bl, 1, none⟩ = some (.slice Al nl cl) := kbl.cell 1
  have hP : Pu w w.drew := (Pu.refl w).drew
  go_region_held3 (fun t => t.cell? ⟨q, 3, none⟩ = some (.pointer (some ⟨bu, 0, none⟩)) ∧ t.cell? ⟨bu, 0, none⟩ = some (.bool gu) ∧ t.cell? ⟨bu, 1, none⟩ = some (.slice Au nu cu) ∧ t.cell? ⟨q, 4, none⟩ = some (.pointer (some ⟨bl, 0, none⟩)) ∧ t.cell? ⟨bl, 0, none⟩ = some (.bool gl) ∧ t.cell? ⟨bl, 1, none⟩ = some (.slice Al nl cl))
    (first | exact Keep6 k0 k1 k2 k3 k4 k5 (by repeat' (first | with_reducible exact hP | with_reducible exact Pu.refl _ | with_reducible refine Pu.drew ?_ | with_reducible refine Pu.alloc ?_ _)) | go_keep)
    (first
    | (go_at_call 49; refine (Hadd.out _ _ (Blk.new _ _ _) (hP.alloc _)).mono ?_; rintro x u1 ⟨v5, rfl, h5, p9⟩; replace hP := (hP.alloc _).trans p9; obtain ⟨g5, A5, n5, c5', rfl⟩ := h5.shape2)
    | (go_at_call 15; refine (Hsign.out _ _ h5).mono ?_; rintro x u8 ⟨rfl, p10⟩; replace hP := hP.trans p10))
  all_goals
    clear h5 k0 k1 k2 k3 k4 k5
    have hp8 := h.pu hP
    have y5 := hp8.blk.cell 5
    have f5 := hp8.blk.frozen 5
    have y3 := hp8.blk.cell 3
    have hpa := hp8.seteq (u := .pointer (some ⟨bu, 0, none⟩)) (o := some a) (.inr ⟨bu, gu, Au, nu, cu, a, rfl, rfl, hNu, kbu.pu hP, hzu.pu hP⟩)
    have hF := (Pu.fr hP).trans (Fr.one u8 q 5 (.pointer (some ⟨bu, 0, none⟩)))
    have hQf := hp8.qfset (i := 5) (.pointer (some ⟨bu, 0, none⟩))
    obtain ⟨U, hU⟩ : ∃ U, U = u8.setCell ⟨q, 5, none⟩ (.pointer (some ⟨bu, 0, none⟩)) := ⟨_, rfl⟩
    rw [← hU] at hpa hF hQf
    have hzu := (hzu.pu hP).qf hQf
    have kbu := (kbu.pu hP).qf hQf (by decide)
    have d5 := hpa.blk.cell 5
    rw [hU] at d5
    have HU := Lib.hid hU
    have Heq2 := Lib.hid (show ({ p with eq := some a } : Pr).eq = some a from rfl)
    have HB2 : Hid (∀ m, (({ p with eq := some a } : Pr).up = some m ∨ ({ p with eq := some a } : Pr).lo = some m ∨ ({ p with eq := some a } : Pr).eq = some m) → m.natAbs < 4294967296 ^ 30000) := Lib.hid (fun m hm => by
      rcases hm with h1 | h1 | h1
      · exact HB2.out m (.inl h1)
      · exact HB2.out m (.inr (.inl h1))
      · injection h1 with h1
        rw [← h1]
        exact Hzu.out)
    clear hp8 hU hP
    go_wp2_with fail
    rw [← HU.out]
    have k0 : U.cell? ⟨q, 0, none⟩ = some (.bool g) := hpa.blk.cell 0
    have k1 : U.cell? ⟨q, 1, none⟩ = some (.slice A n c) := hpa.blk.cell 1
    have k2 : U.cell? ⟨q, 2, none⟩ = some (.pointer m) := hpa.blk.cell 2
    have k3 : U.cell? ⟨q, 5, none⟩ = some (.pointer (some ⟨bu, 0, none⟩)) := hpa.blk.cell 5
    have k4 : U.cell? ⟨bu, 0, none⟩ = some (.bool gu) := kbu.cell 0
    have k5 : U.cell? ⟨bu, 1, none⟩ = some (.slice Au nu cu) := kbu.cell 1
    have hP : Pu U U.drew := (Pu.refl U).drew
    have hbU : base ≤ U.heap.size := Nat.le_trans hb (hF).size
    go_region_held3 (fun t => t.cell? ⟨q, 0, none⟩ = some (.bool g) ∧ t.cell? ⟨q, 1, none⟩ = some (.slice A n c) ∧ t.cell? ⟨q, 2, none⟩ = some (.pointer m) ∧ t.cell? ⟨q, 5, none⟩ = some (.pointer (some ⟨bu, 0, none⟩)) ∧ t.cell? ⟨bu, 0, none⟩ = some (.bool gu) ∧ t.cell? ⟨bu, 1, none⟩ = some (.slice Au nu cu))
      (first | exact Keep6 k0 k1 k2 k3 k4 k5 (by repeat' (first | with_reducible exact hP | with_reducible exact Pu.refl _ | with_reducible refine Pu.drew ?_ | with_reducible refine Pu.alloc ?_ _)) | go_keep)
      (first
      | (go_at_call 32; refine (tnum_any _ _ _ (hzu.pu hP)).mono ?_; rintro x u3 ⟨v6, rfl, h6, p10⟩; replace hP := hP.trans p10; obtain ⟨g6, A6, m6, c6, q6, rfl⟩ := h6.shape)
      | (go_at_call 31; refine (Hplus.out a Hzu.out _ _ u3.heap.size g6 A6 m6 c6 q6 (hpa.tm.pu (hP.alloc _)).tm (Blk.new _ _ _) (h6.pu ((Pu.refl _).alloc _)) (Nat.le_trans hbU (hP.alloc _).size)).mono ?_; rintro x u4 ⟨g7, A7, n7, c7, q7, rfl, h7, p11⟩; replace hP := (hP.alloc _).trans p11; have z4 := hP.size)
      | (go_at_call 72; refine (bound_any base q g A n c m _ _ _ { p with eq := some a } a _ (hpa.pu (by with_reducible first | exact hP | exact hP.alloc _)) rfl HB2.out).mono ?_; rintro x u5 ⟨rfl, p12⟩; with_reducible (first | (have bR := (Blk.new u4 35 #[.bool g7, .slice A7 n7 c7, .pointer q7, .bool true]).pu p12) | skip); replace h7 := (h7.pu (by with_reducible first | exact Pu.refl _ | exact (Pu.refl _).alloc _)).pu p12; replace hP := Pu.trans (a := U) (by with_reducible first | exact hP | exact hP.alloc _) p12))
    all_goals
      have HH := Lib.hid (And.intro h7 hP)
      clear h7 hP
      go_wp2
      go_ret2
      first
        | exact ⟨_, 1, 1, [⟨g7, A7, n7, c7, q7, true⟩], rfl, by omega, Sl.of_blk bR 4 1 1 rfl (by omega), HoldO.one ⟨rfl, HH.out.1⟩, beyond_at (Nat.le_trans (hF).size z4), (hF).pu HH.out.2⟩
        | exact ⟨_, 1, 1, [⟨g7, A7, n7, c7, q7, true⟩], rfl, by omega, Sl.new _ _ _ 4 1 1 rfl (by omega), HoldO.one ⟨rfl, HH.out.1.pu ((Pu.refl _).alloc _)⟩, beyond_at (Nat.le_trans (hF).size HH.out.2.size), (hF).pu (HH.out.2.alloc _)⟩
set_option maxHeartbeats 8000000 in
set_option maxRecDepth 100000 in
theorem prows_two (w : World) (g : Bool) (A : Option Addr) (n c : Nat) (m : Option Addr) (pu pl pe : Value) (h : PairAt w base (fun b => base ≤ b) q g A n c m pu pl pe p) (hb : base ≤ w.heap.size) (hU : Upto K p.fs) (hbig : K + 1100000 * K < 4294967296 ^ 30000) (hlen : p.fs.length < 30000) (hz : NZ p.fs)
    (hB : ∀ m, (p.up = some m ∨ p.lo = some m ∨ p.eq = some m) → m.natAbs < 4294967296 ^ 30000) (a b : Int) (heq : p.eq = none) (hup : p.up = some a) (hlo : p.lo = some b) (hs : a + b < 0) :
    Calls Tryz.prog 37 #[ptr q] w (RowsOf w base q [⟨a, p.fs, false⟩, ⟨b, mulM p.fs (-1), false⟩] true) := by
  have hr := h.tm.tm.rise.1
  have Hplus := Lib.hid (fun z (hz : z.natAbs < 4294967296 ^ 30000) => plus_num (base := base) p.fs z hU hbig hlen hz)
  have Hplus2 := Lib.hid (fun z (hz : z.natAbs < 4294967296 ^ 30000) => plus_num (base := base) (mulM p.fs (-1)) z (mulM_upto hU) hbig (by rw [mulM_len]; exact hlen) hz)
  have Hturn := Lib.hid (show ∀ V v, base ≤ V.heap.size → TM V v 0 p.fs → Calls Tryz.prog 73 #[v] V fun e w' => ∃ g A n c m, e = .returned (.agg #[.bool g, .slice A n c, .pointer m]) ∧ TMO w' base (.agg #[.bool g, .slice A n c, .pointer m]) 0 (mulM p.fs (-1)) ∧ Pu V w' from fun V v hV ht => by
    refine (turned_any v 0 p.fs K V ht hU hlen (by
      exact Nat.lt_of_le_of_lt (Nat.le_add_left _ _) hbig) up_zero).mono ?_
    rintro e w' ⟨v, e1, ht, p'⟩
    rw [Int.zero_mul, addM_nil hr hz (by omega)] at ht
    obtain ⟨g, A, n, c, m, rfl⟩ := ht.tm.shape
    exact ⟨g, A, n, c, m, e1, ht.base_ hV, p'⟩)
  have hb0 := hb
  have HB2 := Lib.hid hB
  clear hU hbig hlen hz hr
  have he := h.e
  rw [heq] at he
  rcases he with ⟨e1, _⟩ | ⟨be, ge, Ae, ne, ce, z, e1, e2, hNe, kbe, hze⟩
  rotate_left
  · cases e2
  subst e1
  have hu := h.u
  rw [hup] at hu
  rcases hu with ⟨_, h0⟩ | ⟨bu, gu, Au, nu, cu, z, e1, e2, hNu, kbu, hzu⟩
  · cases h0
  injection e2 with e2
  subst e2 e1
  have hl := h.l
  rw [hlo] at hl
  rcases hl with ⟨_, h0⟩ | ⟨bl, gl, Al, nl, cl, z, e1, e2, hNl, kbl, hzl⟩
  · cases h0
  injection e2 with e2
  subst e2 e1
  have Hzu := Lib.hid (hB a (.inl hup))
  have Hzl := Lib.hid (hB b (.inr (.inl hlo)))
  have Heq := Lib.hid heq
  have hsg : (a + b).sign = -1 := Int.sign_eq_neg_one_of_neg hs
  have Hadd := Lib.hid (fun V r (kr : Blk V r 30 #[.bool gl, .slice Al nl cl]) (pp : Pu w V) => addv_any (.agg #[.bool gu, .slice Au nu cu]) (.agg #[.bool gl, .slice Al nl cl]) a b r V (hzu.pu pp) (hzl.pu pp) (up9 Hzu.out) (up9 Hzl.out) kr)
  have Hsign := Lib.hid (fun V v (hv : ZR V v (a + b)) => sign_any v (a + b) V hv (up_sum Hzu.out Hzl.out))
  rw [hsg] at Hsign
  have Hs := Lib.hid hs
  have c3 := h.blk.cell 3
  have c4 := h.blk.cell 4
  have c5 := h.blk.cell 5
  clear heq hup hlo hB hsg hs
  go_enter Tryz.func37, Tryz.ntmps37
  go_wp2_with fail
  have k0 : w.cell? ⟨q, 3, none⟩ = some (.pointer (some ⟨bu, 0, none⟩)) := h.blk.cell 3
  have k1 : w.cell? ⟨bu, 0, none⟩ = some (.bool gu) := kbu.cell 0
  have k2 : w.cell? ⟨bu, 1, none⟩ = some (.slice Au nu cu) := kbu.cell 1
  have k3 : w.cell? ⟨q, 4, none⟩ = some (.pointer (some ⟨bl, 0, none⟩)) := h.blk.cell 4
  have k4 : w.cell? ⟨bl, 0, none⟩ = some (.bool gl) := kbl.cell 0
  have k5 : w.cell? ⟨bl, 1, none⟩ = some (.slice Al nl cl) := kbl.cell 1
  have hP : Pu w w.drew := (Pu.refl w).drew
  go_region_held3 (fun t => t.cell? ⟨q, 3, none⟩ = some (.pointer (some ⟨bu, 0, none⟩)) ∧ t.cell? ⟨bu, 0, none⟩ = some (.bool gu) ∧ t.cell? ⟨bu, 1, none⟩ = some (.slice Au nu cu) ∧ t.cell? ⟨q, 4, none⟩ = some (.pointer (some ⟨bl, 0, none⟩)) ∧ t.cell? ⟨bl, 0, none⟩ = some (.bool gl) ∧ t.cell? ⟨bl, 1, none⟩ = some (.slice Al nl cl))
    (first | exact Keep6 k0 k1 k2 k3 k4 k5 (by repeat' (first | with_reducible exact hP | with_reducible exact Pu.refl _ | with_reducible refine Pu.drew ?_ | with_reducible refine Pu.alloc ?_ _)) | go_keep)
    (first
    | (go_at_call 49; refine (Hadd.out _ _ (Blk.new _ _ _) (hP.alloc _)).mono ?_; rintro x u1 ⟨v5, rfl, h5, p9⟩; replace hP := (hP.alloc _).trans p9; obtain ⟨g5, A5, n5, c5', rfl⟩ := h5.shape2)
    | (go_at_call 15; refine (Hsign.out _ _ h5).mono ?_; rintro x u8 ⟨rfl, p10⟩; replace hP := hP.trans p10))
  all_goals
    clear h5 k0 k1 k2 k3 k4 k5
    have y3 := hP.cellv c3
    have y5 := hP.cellv c5
    go_wp2_with fail
    have k0 : w.cell? ⟨q, 0, none⟩ = some (.bool g) := h.blk.cell 0
    have k1 : w.cell? ⟨q, 1, none⟩ = some (.slice A n c) := h.blk.cell 1
    have k2 : w.cell? ⟨q, 2, none⟩ = some (.pointer m) := h.blk.cell 2
    have k3 : w.cell? ⟨q, 3, none⟩ = some (.pointer (some ⟨bu, 0, none⟩)) := h.blk.cell 3
    have k4 : w.cell? ⟨bu, 0, none⟩ = some (.bool gu) := kbu.cell 0
    have k5 : w.cell? ⟨bu, 1, none⟩ = some (.slice Au nu cu) := kbu.cell 1
    have x0 : u8.cell? ⟨q, 0, none⟩ = some (.bool g) := hP.cellv k0
    have x1 : u8.cell? ⟨q, 1, none⟩ = some (.slice A n c) := hP.cellv k1
    have x2 : u8.cell? ⟨q, 2, none⟩ = some (.pointer m) := hP.cellv k2
    have x3 : u8.cell? ⟨q, 3, none⟩ = some (.pointer (some ⟨bu, 0, none⟩)) := hP.cellv k3
    have x4 : u8.cell? ⟨bu, 0, none⟩ = some (.bool gu) := hP.cellv k4
    have x5 : u8.cell? ⟨bu, 1, none⟩ = some (.slice Au nu cu) := hP.cellv k5
    replace hP := hP.drew
    have hbU := hb
    go_region_held3 (fun t => t.cell? ⟨q, 0, none⟩ = some (.bool g) ∧ t.cell? ⟨q, 1, none⟩ = some (.slice A n c) ∧ t.cell? ⟨q, 2, none⟩ = some (.pointer m) ∧ t.cell? ⟨q, 3, none⟩ = some (.pointer (some ⟨bu, 0, none⟩)) ∧ t.cell? ⟨bu, 0, none⟩ = some (.bool gu) ∧ t.cell? ⟨bu, 1, none⟩ = some (.slice Au nu cu))
      (first | exact Keep6 k0 k1 k2 k3 k4 k5 (by repeat' (first | with_reducible exact hP | with_reducible exact Pu.refl _ | with_reducible refine Pu.drew ?_ | with_reducible refine Pu.alloc ?_ _)) | go_keep)
      (first
      | (go_at_call 32; refine (tnum_any _ _ _ (hzu.pu hP)).mono ?_; rintro x u3 ⟨v6, rfl, h6, p10⟩; replace hP := hP.trans p10; obtain ⟨g6, A6, m6, c6, q6, rfl⟩ := h6.shape)
      | (go_at_call 31; refine (Hplus.out a Hzu.out _ _ u3.heap.size g6 A6 m6 c6 q6 (h.tm.pu (hP.alloc _)).tm (Blk.new _ _ _) (h6.pu ((Pu.refl _).alloc _)) (Nat.le_trans hbU (hP.alloc _).size)).mono ?_; rintro x u4 ⟨g7, A7, n7, c7, q7, rfl, h7, p11⟩; replace hP := (hP.alloc _).trans p11; have z4 := hP.size; have ho0 := World.ownsRow_nil u4 w.heap.size 35 4)
      | (refine step_push eiRow rfl (.tmp 77) (.tmp 92) rfl #[.bool g7, .slice A7 n7 c7, .pointer q7, .bool false] rfl one_row (by simp [Act.eval]) (by simp [Act.eval]) ho0 (by simp [maxLen]) (by omega) hP.size ?_; intro A8 c8 w8 ho8 hg8; replace h7 := h7.qf (grown_qf ho0 hb hg8); replace hP := pu_push hP ho0 (Nat.le_refl _) hg8))
    all_goals
      clear k0 k1 k2 k3 k4 k5 x0 x1 x2 x3 x4 x5 y3 y5
      have y4 := hP.cellv c4
      have h8 : RowO w8 base ⟨g7, A7, n7, c7, q7, false⟩ ⟨a, p.fs, false⟩ := ⟨rfl, h7⟩
      clear h7 h6
      go_wp2_with fail
      have k0 : w.cell? ⟨q, 0, none⟩ = some (.bool g) := h.blk.cell 0
      have k1 : w.cell? ⟨q, 1, none⟩ = some (.slice A n c) := h.blk.cell 1
      have k2 : w.cell? ⟨q, 2, none⟩ = some (.pointer m) := h.blk.cell 2
      have k3 : w.cell? ⟨q, 4, none⟩ = some (.pointer (some ⟨bl, 0, none⟩)) := h.blk.cell 4
      have k4 : w.cell? ⟨bl, 0, none⟩ = some (.bool gl) := kbl.cell 0
      have k5 : w.cell? ⟨bl, 1, none⟩ = some (.slice Al nl cl) := kbl.cell 1
      have x0 : w8.cell? ⟨q, 0, none⟩ = some (.bool g) := hP.cellv k0
      have x1 : w8.cell? ⟨q, 1, none⟩ = some (.slice A n c) := hP.cellv k1
      have x2 : w8.cell? ⟨q, 2, none⟩ = some (.pointer m) := hP.cellv k2
      have x3 : w8.cell? ⟨q, 4, none⟩ = some (.pointer (some ⟨bl, 0, none⟩)) := hP.cellv k3
      have x4 : w8.cell? ⟨bl, 0, none⟩ = some (.bool gl) := hP.cellv k4
      have x5 : w8.cell? ⟨bl, 1, none⟩ = some (.slice Al nl cl) := hP.cellv k5
      replace hP := hP.drew
      have hbU := hb
      have hQ : Pu w8 w8.drew := (Pu.refl _).drew
      go_region_held3 (fun t => t.cell? ⟨q, 0, none⟩ = some (.bool g) ∧ t.cell? ⟨q, 1, none⟩ = some (.slice A n c) ∧ t.cell? ⟨q, 2, none⟩ = some (.pointer m) ∧ t.cell? ⟨q, 4, none⟩ = some (.pointer (some ⟨bl, 0, none⟩)) ∧ t.cell? ⟨bl, 0, none⟩ = some (.bool gl) ∧ t.cell? ⟨bl, 1, none⟩ = some (.slice Al nl cl))
        (first | exact Keep6 k0 k1 k2 k3 k4 k5 (by repeat' (first | with_reducible exact hP | with_reducible exact Pu.refl _ | with_reducible refine Pu.drew ?_ | with_reducible refine Pu.alloc ?_ _)) | go_keep)
        (first
        | (go_at_call 73; refine (Hturn.out _ _ (Nat.le_trans hb hP.size) (h.tm.pu hP).tm).mono ?_; rintro x u2 ⟨g5, A5, n5, c5, q5, rfl, h5, p9⟩; replace hP := hP.trans p9; replace hQ := hQ.trans p9)
        | (go_at_call 32; refine (tnum_any _ _ _ (hzl.pu hP)).mono ?_; rintro x u3 ⟨v6, rfl, h6, p10⟩; replace hP := hP.trans p10; replace h5 := h5.pu p10; replace hQ := hQ.trans p10; obtain ⟨g6, A6, m6, c6, q6, rfl⟩ := h6.shape)
        | (go_at_call 31; refine (Hplus2.out b Hzl.out _ _ u3.heap.size g6 A6 m6 c6 q6 (h5.pu ((Pu.refl _).alloc _)).tm (Blk.new _ _ _) (h6.pu ((Pu.refl _).alloc _)) (Nat.le_trans hbU (hP.alloc _).size)).mono ?_; rintro x u4 ⟨g7, A7, n7, c7, q7, rfl, h7, p11⟩; replace hP := (hP.alloc _).trans p11; replace hQ := (hQ.alloc _).trans p11; have ho0 := own_pu ho8 hQ)
        | (refine step_push eiRow rfl (.tmp 99) (.tmp 115) rfl #[.bool g7, .slice A7 n7 c7, .pointer q7, .bool false] rfl one_row (by simp [Act.eval]) (by simp [Act.eval]) ho0 (by simp [maxLen]) (by omega) hP.size ?_; intro A9 c9 w9 ho9 hg9; replace h7 := h7.qf (grown_qf ho0 hb hg9); replace h8 := (h8.pu hQ).qf (grown_qf ho0 hb hg9); replace hP := pu_push hP ho0 (Nat.le_refl _) hg9))
      all_goals
        have HH := Lib.hid (And.intro (And.intro h8 h7) (And.intro ho9 hP))
        clear h7 h8 ho9 hP ho8
        go_wp2
        go_ret2
        exact ⟨A9, _, c9, _, rfl, by omega, Sl.of_own HH.out.2.1, (HoldO.one HH.out.1.1).append (HoldO.one (q := ⟨_, _, _, _, _, false⟩) (r := ⟨b, mulM p.fs (-1), false⟩) ⟨rfl, HH.out.1.2⟩), Beyond.own HH.out.2.1, HH.out.2.2.fr⟩
theorem prows_any (w : World) (h : PairIs w base (fun b => base ≤ b) q p) (hb : base ≤ w.heap.size) (hg : PGood K p) (hK : Big K) :
    Calls Tryz.prog 37 #[ptr q] w (RowsOf w base q (rowsM p).1 (rowsM p).2) := by
  obtain ⟨g, A, n, c, m, pu, pl, pe, h⟩ := h
  rcases rowsM_cases p with ⟨e, h1, h2⟩ | ⟨a, b, h0, h1, h3, h4, h2⟩ | ⟨a, b, h0, h1, h3, h4, h2⟩ | ⟨a, b, h0, h1, h3, h4, h2⟩ | ⟨a, h0, h1, h3, h2⟩ | ⟨b, h0, h1, h3, h2⟩ | ⟨h0, h1, h3, h2⟩
  all_goals rw [h2]
  · exact prows_eq w g A n c m pu pl pe h hb hg.fs.up hK hg.fs.few hg.fs.nz hg.num e h1
  · exact prows_bad w g A n c m pu pl pe h hb hg.fs.up hK hg.fs.few hg.fs.nz hg.num a b h0 h1 h3 h4
  · exact prows_meet w g A n c m pu pl pe h hb hg.fs.up hK hg.fs.few hg.fs.nz hg.num a b h0 h1 h3 h4
  · exact prows_two w g A n c m pu pl pe h hb hg.fs.up hK hg.fs.few hg.fs.nz hg.num a b h0 h1 h3 h4
  · exact prows_up w g A n c m pu pl pe h hb hg.fs.up hK hg.fs.few hg.fs.nz hg.num a h0 h1 h3
  · exact prows_lo w g A n c m pu pl pe h hb hg.fs.up hK hg.fs.few hg.fs.nz hg.num b h0 h1 h3
  · exact prows_none w g A n c m pu pl pe h hb hg.fs.up hK hg.fs.few hg.fs.nz hg.num h0 h1 h3
end
end
end Go.Proofs.YtckfnbckoclhpaaGreatDoor
