/- Terms: add. Terms: Times, Minus, Factor, Rest. Terms: Minus. -/
import Derived.Test.YtckfnbckoclhpaaGreatDoorE12
import Derived.Test.YtckfnbckoclhpaaGreatDoorE08
import Derived.Test.YtckfnbckoclhpaaGreatDoorC05
import Derived.Test.YtckfnbckoclhpaaGreatDoorC04
import Derived.Deep.RegionHeld3
namespace Go.Proofs.YtckfnbckoclhpaaGreatDoor
section
set_option linter.unusedVariables false
open Go.RowKit
theorem TM.shape {w : World} {v : Value} {rest : Int} {fs : List (Key × Int)} (h : TM w v rest fs) : ∃ g A n c m, v = .agg #[.bool g, .slice A n c, .pointer m] := by
  obtain ⟨g, A, n, c, m, h1, -⟩ := h
  exact ⟨g, A, n, c, m, h1⟩
theorem up_from {n a b : Nat} (h : n < 4294967296 ^ a) (hab : a ≤ b) : n < 4294967296 ^ b := Nat.lt_of_lt_of_le h (pow_up hab)
theorem size_alloc3 (w : World) (o : Obj) : w.heap.size + 1 = (w.alloc o).heap.size := by simp
structure Lies (u V : World) (P : Nat) (g : Bool) (A : Option Addr) (n c : Nat) (z : Int) : Prop where
  blk : Blk V P 30 #[.bool g, .slice A n c]
  num : ZR V (.agg #[.bool g, .slice A n c]) z
  pu : Pu u V
theorem lies_new {u v : World} {g : Bool} {A : Option Addr} {n c : Nat} {z : Int} (hP : Pu u v) (hz : ZR v (.agg #[.bool g, .slice A n c]) z) : Lies u (v.alloc (.cells #[.bool g, .slice A n c] 30)) v.heap.size g A n c z :=
  ⟨Blk.new _ _ _, hz.pu ((Pu.refl _).alloc _), hP.alloc _⟩
theorem lies_old {u v : World} {g : Bool} {A : Option Addr} {n c a : Nat} {z : Int} (hP : Pu u v) (hz : ZR v (.agg #[.bool g, .slice A n c]) z) (k : Blk v a 30 #[.bool false, .slice none 0 0]) (ha : u.heap.size ≤ a) : Lies u ((v.setCell ⟨a, 0, none⟩ (.bool g)).setCell ⟨a, 1, none⟩ (.slice A n c)) a g A n c z := by
  obtain ⟨_, _, rz, rp⟩ := store_num k g A n c
  exact ⟨(over_n k g A n c).1, rz _ _ hz, rp _ hP ha⟩
theorem Keep6 {U V : World} {p0 p1 p2 p3 p4 p5 : Addr} {v0 v1 v2 v3 v4 v5 : Value} (h0 : U.cell? p0 = some v0) (h1 : U.cell? p1 = some v1) (h2 : U.cell? p2 = some v2) (h3 : U.cell? p3 = some v3) (h4 : U.cell? p4 = some v4) (h5 : U.cell? p5 = some v5) (p : Pu U V) :
    V.cell? p0 = some v0 ∧ V.cell? p1 = some v1 ∧ V.cell? p2 = some v2 ∧ V.cell? p3 = some v3 ∧ V.cell? p4 = some v4 ∧ V.cell? p5 = some v5 := ⟨p.cellv h0, p.cellv h1, p.cellv h2, p.cellv h3, p.cellv h4, p.cellv h5⟩
theorem Keep3F {U V : World} {b b' b'' c : Nat} {v0 v1 v2 v3 v4 v5 : Value} (h0 : U.cell? ⟨b, 0, none⟩ = some v0) (h1 : U.cell? ⟨b, 1, none⟩ = some v1) (h2 : U.cell? ⟨b', 0, none⟩ = some v2) (h3 : U.cell? ⟨b', 1, none⟩ = some v3) (h4 : U.cell? ⟨b'', 0, none⟩ = some v4) (h5 : U.cell? ⟨b'', 1, none⟩ = some v5) (p : Pu U V) (x y z : Value) (n0 : b ≠ c) (n1 : b' ≠ c) (n2 : b'' ≠ c) :
    (((V.setCell ⟨c, 0, none⟩ x).setCell ⟨c, 1, none⟩ y).setCell ⟨c, 2, none⟩ z).cell? ⟨b, 0, none⟩ = some v0 ∧ (((V.setCell ⟨c, 0, none⟩ x).setCell ⟨c, 1, none⟩ y).setCell ⟨c, 2, none⟩ z).cell? ⟨b, 1, none⟩ = some v1 ∧ (((V.setCell ⟨c, 0, none⟩ x).setCell ⟨c, 1, none⟩ y).setCell ⟨c, 2, none⟩ z).cell? ⟨b', 0, none⟩ = some v2 ∧ (((V.setCell ⟨c, 0, none⟩ x).setCell ⟨c, 1, none⟩ y).setCell ⟨c, 2, none⟩ z).cell? ⟨b', 1, none⟩ = some v3 ∧ (((V.setCell ⟨c, 0, none⟩ x).setCell ⟨c, 1, none⟩ y).setCell ⟨c, 2, none⟩ z).cell? ⟨b'', 0, none⟩ = some v4 ∧ (((V.setCell ⟨c, 0, none⟩ x).setCell ⟨c, 1, none⟩ y).setCell ⟨c, 2, none⟩ z).cell? ⟨b'', 1, none⟩ = some v5 := by
  have hf : Fr (fun j => j = c) U (((V.setCell ⟨c, 0, none⟩ x).setCell ⟨c, 1, none⟩ y).setCell ⟨c, 2, none⟩ z) := ((Pu.fr p (S := fun j => j = c)).trans (Fr.one V c 0 x)).trans (Fr.one _ c 1 y) |>.trans (Fr.one _ c 2 z)
  exact ⟨hf.cellv h0 n0, hf.cellv h1 n0, hf.cellv h2 n1, hf.cellv h3 n1, hf.cellv h4 n2, hf.cellv h5 n2⟩
def TMO (w : World) (base : Nat) (v : Value) (rest : Int) (fs : List (Key × Int)) : Prop :=
  ∃ g A n c b r L, v = .agg #[.bool g, .slice A n c, .pointer (some ⟨b, 0, none⟩)] ∧ ZR w (.agg #[.bool g, .slice A n c]) rest ∧ MOZ w base b r L ∧ HoldM w L fs
theorem TMO.tm {w : World} {base : Nat} {v : Value} {rest : Int} {fs : List (Key × Int)} (h : TMO w base v rest fs) : TM w v rest fs := by
  obtain ⟨g, A, n, c, b, r, L, h1, h2, h3, h4⟩ := h
  exact ⟨g, A, n, c, _, h1, h2, .inr ⟨b, L, rfl, h3.mr, h4⟩⟩
theorem TMO.frT {S : Nat → Prop} {w w' : World} {base : Nat} {v : Value} {rest : Int} {fs : List (Key × Int)} (h : TMO w base v rest fs) (hf : Fr S w w') (h1 : ∀ g, S g → g < base) (h2 : ∀ g, S g → ∃ t cs fz, w.heap[g]? = some (.cells cs t fz) ∧ t ≠ 169) : TMO w' base v rest fs := by
  obtain ⟨g, A, n, c, b, r, L, e, hz, hm, hh⟩ := h
  refine ⟨g, A, n, c, b, r, L, e, hz.frT hf h2, hm.fr hf (fun e => ?_) (fun j hj e => ?_), hh.frT hf h2⟩
  · have := h1 _ e
    have := hm.lt
    omega
  · have := h1 _ e
    have := hm.row j hj
    omega
theorem TM.rest_ {w : World} {g : Bool} {A : Option Addr} {n c : Nat} {m : Option Addr} {rest : Int} {fs : List (Key × Int)} (h : TM w (.agg #[.bool g, .slice A n c, .pointer m]) rest fs) : ZR w (.agg #[.bool g, .slice A n c]) rest := by
  obtain ⟨g', A', n', c', m', e, h1, -⟩ := h
  simp only [Value.agg.injEq, Array.mk.injEq, List.cons.injEq, Value.bool.injEq, Value.slice.injEq, Value.pointer.injEq, and_true] at e
  obtain ⟨rfl, ⟨rfl, rfl, rfl⟩, rfl⟩ := e
  exact h1
theorem up_mul {a b : Int} (ha : a.natAbs < 4294967296 ^ 30000) (hb : b.natAbs < 4294967296 ^ 30000) : (a * b).natAbs < 4294967296 ^ 90000 := by
  rw [Int.natAbs_mul]
  have h : ∀ p q : Nat, a.natAbs < 4294967296 ^ p → b.natAbs < 4294967296 ^ q → a.natAbs * b.natAbs < 4294967296 ^ (p + q) := fun p q hp hq => by
    rw [Nat.pow_add]
    exact Nat.mul_lt_mul'' hp hq
  exact up_from (n := a.natAbs * b.natAbs) (a := 30000 + 30000) (b := 90000) (h 30000 30000 ha hb) (by decide)
set_option maxHeartbeats 16000000 in
set_option maxRecDepth 100000 in
theorem tadd_own (v1 v2 v3 : Value) (r1 r2 n : Int) (fs gs : List (Key × Int)) (K M : Nat) (w : World) (h1 : TM w v1 r1 fs) (h2 : TM w v2 r2 gs) (h3 : ZR w v3 n)
    (hK : Upto K fs) (hM : ∀ g ∈ gs, (g.2 * n).natAbs ≤ M) (hL : fs.length + gs.length < 30000) (hbig : K + 1100000 * M < 4294967296 ^ 30000) (hn : n.natAbs < 4294967296 ^ 30000) (hg : ∀ g ∈ gs, g.2.natAbs < 4294967296 ^ 30000) (hr1 : r1.natAbs < 4294967296 ^ 30000) (hr2 : r2.natAbs < 4294967296 ^ 30000) :
    Calls Tryz.prog 62 #[v1, v2, v3] w fun e w' => ∃ v, e = .returned v ∧ TMO w' w.heap.size v (r1 + r2 * n) (addM fs gs n) ∧ Pu w w' := by
  have h1' := h1
  obtain ⟨g1, A1, n1, c1, m1, rfl, hz1, hm1⟩ := h1
  obtain ⟨g2, A2, n2, c2, m2, rfl⟩ := h2.shape
  obtain ⟨g3, A3, n3, c3, rfl⟩ := h3.shape
  obtain ⟨W, hWe⟩ : ∃ W, W = (((w.alloc (.cells #[.bool g1, .slice A1 n1 c1, .pointer m1] 33)).alloc (.cells #[.bool g2, .slice A2 n2 c2, .pointer m2] 33)).alloc (.cells #[.bool g3, .slice A3 n3 c3] 30)).alloc (.cells #[.bool false, .slice none 0 0, .pointer none] 33) := ⟨_, rfl⟩
  have hW : Pu w W := by rw [hWe]; exact ((((Pu.refl w).alloc _).alloc _).alloc _).alloc _
  have k1 : Blk W w.heap.size 33 #[.bool g1, .slice A1 n1 c1, .pointer m1] := by rw [hWe]; exact (((Blk.new w _ _).alloc _).alloc _).alloc _
  have k2 : Blk W (w.heap.size + 1) 33 #[.bool g2, .slice A2 n2 c2, .pointer m2] := by rw [hWe]; exact ((Blk.at_new _ _ _ (by simp)).alloc _).alloc _
  have k3 : Blk W (w.heap.size + 2) 30 #[.bool g3, .slice A3 n3 c3] := by rw [hWe]; exact (Blk.at_new _ _ _ (by simp)).alloc _
  have k4 : Blk W (w.heap.size + 3) 33 #[.bool false, .slice none 0 0, .pointer none] := by rw [hWe]; exact Blk.at_new _ _ _ (by simp)
  have hWs : W.heap.size = w.heap.size + 4 := by rw [hWe]; simp
  have H1 := Lib.hid (hz1.pu hW)
  have H2 := Lib.hid (h2.pu hW)
  have H3 := Lib.hid (h3.pu hW)
  have HM1 : Hid ((m1 = none ∧ fs = []) ∨ ∃ b L, m1 = some ⟨b, 0, none⟩ ∧ MRZ W b L ∧ HoldM W L fs) := Lib.hid (by
    rcases hm1 with e | ⟨b, L, e, h4, h5⟩
    · exact .inl e
    · exact .inr ⟨b, L, e, h4.pu hW, h5.pu hW⟩)
  have HR1 := Lib.hid h1'.rise
  have HNew := Lib.hid (newZ W)
  rw [hWe] at HNew
  have HWe := Lib.hid hWe
  have HH := Lib.hid (And.intro hK (And.intro hM (And.intro hbig (And.intro hn (And.intro hg (And.intro hr1 hr2))))))
  clear hWe hz1 h2 h3 hm1 h1' hK hM hbig hn hg hr1 hr2
  have q12 : ∀ U, Pu W U → U.cell? ⟨w.heap.size, 2, none⟩ = some (.pointer m1) := fun U p => (k1.pu p).cell 2
  have hcase : (m1 = none ∧ fs = []) ∨ ∃ b L, m1 = some ⟨b, 0, none⟩ ∧ MRZ W b L ∧ HoldM W L fs := HM1.out
  have Q12 := Lib.hid q12
  clear q12 HM1
  rcases hcase with ⟨rfl, hfs⟩ | ⟨b1, L1, rfl, hmr, hho⟩
  focus
    go_enter Tryz.func62, Tryz.ntmps62
    go_wp2_with fail
    refine HNew.out.mono ?_
    rintro e w1 ⟨b, rfl, hmo, p1⟩
    rw [← HWe.out] at p1 hmo
    have q12 := Q12.out _ p1
    have y0 := (k2.pu p1).cell 0
    have y1 := (k2.pu p1).cell 1
    have y2 := (k2.pu p1).cell 2
    obtain ⟨r, L1, hmo2, hho2⟩ : ∃ r L, MOZ w1 W.heap.size b r L ∧ HoldM w1 L fs := ⟨none, [], hmo, by rw [hfs]; exact HoldM.nil _⟩
    clear hmo
    go_wp2_with fail
  rotate_left
  focus
    go_enter Tryz.func62, Tryz.ntmps62
    go_wp2_with fail
    refine HNew.out.mono ?_
    rintro e w0 ⟨b0, rfl, -, p0⟩
    rw [← HWe.out] at p0
    have q12 := Q12.out _ p0
    go_wp2_with fail
    refine (copyZ b1 L1 _ (hmr.pu p0)).mono ?_
    rintro e w1 ⟨b, r, rfl, hmo, p1⟩
    have hmo2 := hmo.base_ p0.size
    replace p1 := p0.trans p1
    have y0 := (k2.pu p1).cell 0
    have y1 := (k2.pu p1).cell 1
    have y2 := (k2.pu p1).cell 2
    have hho2 := hho.pu p1
    clear hmo p0 hmr hho
    go_wp2_with fail
  all_goals
    refine (tpairs_any _ r2 gs w1 (H2.out.pu p1)).mono ?_
    rintro e Wp ⟨A4, n4, c4, LG, rfl, hSl, hn4, hHG, hB4, p2⟩
    have hlt := hmo2.lt
    have hrow := hmo2.row
    have hmo3 := hmo2.pu p2
    have hho3 := hho2.pu p2
    have PW := p1.trans p2
    have PWp := hW.trans PW
    have j1 := k1.pu PW
    have j2 := k2.pu PW
    have j3 := k3.pu PW
    have j4 := k4.pu PW
    have jn := H3.out.pu PW
    have jz := H1.out.pu PW
    have j2t := H2.out.pu PW
    have hsz2 := p2.size
    have hLG : LG.length = n4 := lenZ hSl
    have HRow := Lib.hid hrow
    clear hrow q12 y0 y1 y2 hmo2 hho2 p1 p2 k1 k2 k3 k4 H1 H2 H3 HNew Q12 HWe
    go_wp2_with fail
    go_loopw [23] (fun iv ws => ∃ (i : Nat) (r' : Option Nat) (L : List (Key × Part)) (acc : List (Key × Int)), i ≤ n4 ∧ iv = .int .i64 (i : Int) ∧ MOZ ws W.heap.size b r' L ∧ HoldM ws L acc ∧ acc = addM fs (gs.take i) n ∧ acc.length ≤ fs.length + i ∧ Upto (K + i * M) acc ∧ (r' = r ∨ ∃ g, r' = some g ∧ Wp.heap.size ≤ g) ∧ Fr (fun j => j = b ∨ r = some j) Wp ws) (fun iv _ => n4 - (intOf iv).toNat)
    case atStart => exact ⟨0, r, L1, fs, Nat.zero_le _, rfl, hmo3, hho3, rfl, Nat.le_refl _, by simpa using HH.out.1, .inl rfl, Fr.refl _ _⟩
    case round =>
      obtain ⟨i, r', L, acc, hi, rfl, hmo4, hho4, hacc, hlen, hup, hrr, hF⟩ := hrel
      have hty := hmo3.typed
      have HSb : ∀ j, j < W.heap.size → ¬ (j = b ∨ r = some j) := fun j hj e => by
        rcases e with e | e
        · omega
        · have := (HRow.out j e).1
          omega
      have hS4 : Sl wr 3 A4 n4 c4 (kps vcZ LG) := hSl.fr hF (fun _ b' off e hS => by
        have h5 := hB4 b' off e
        rcases hS with hS | hS
        · omega
        · have := (HRow.out b' hS).2.1
          omega)
      have Hacc := Lib.hid hacc
      have Hup := Lib.hid hup
      clear hacc hup
      by_cases hil : i < n4
      · obtain ⟨p, hp⟩ : ∃ p, LG[i]? = some p := ⟨_, List.getElem?_eq_getElem (by omega)⟩
        obtain ⟨gg, hgi⟩ : ∃ g, gs[i]? = some g := ⟨_, List.getElem?_eq_getElem (by rw [← hHG.1]; omega)⟩
        obtain ⟨k, qg, qA, qn, qc⟩ := p
        obtain ⟨k', z⟩ := gg
        obtain ⟨ek, hq⟩ := hHG.2 i _ _ hp hgi
        dsimp only at ek hq
        subst ek
        obtain ⟨bb, off, rfl, hbl, x0, x1, x2⟩ := atZ hS4 hp
        have hq4 := hq.frT hF hty
        have hn4' := jn.frT hF hty
        have l3 := j3.fr hF (HSb _ (by omega))
        have hmg := List.mem_of_getElem? hgi
        have Hgi := Lib.hid hgi
        have hget := getZ b L k (wr.alloc (.cells #[.string ⟨k.toArray⟩, .bool qg, .slice qA qn qc] 119)) (hmo4.mr.pu ((Pu.refl _).alloc _))
        have hwas := hho4.get (k := k) hmo4.mr.rise
        generalize gvZ L k = gw at *
        generalize there L k = th at *
        obtain ⟨wg, wA, wn, wc, rfl⟩ := hwas.shape2
        have Hget := Lib.hid hget
        have pA : Pu wr (wr.alloc (.cells #[.string ⟨k.toArray⟩, .bool qg, .slice qA qn qc] 119)) := (Pu.refl _).alloc _
        have kA : Blk (wr.alloc (.cells #[.string ⟨k.toArray⟩, .bool qg, .slice qA qn qc] 119)) wr.heap.size 119 #[.string ⟨k.toArray⟩, .bool qg, .slice qA qn qc] := Blk.new _ _ _
        have hwi : IntKind.i64.wrap ((i : Int) + 1) = (i : Int) + 1 := IntWalk.i64_in _ (by omega)
        clear hget hp hgi hq hS4
        go_wp2_with fail
        refine Hget.out.mono ?_
        rintro e u1 ⟨rfl, q1⟩
        have pU := pA.trans q1
        have kA1 := kA.pu q1
        have kN := l3.pu pU
        obtain ⟨U, hU⟩ : ∃ U, U = u1.alloc (.cells #[.bool wg, .slice wA wn wc] 30) := ⟨_, rfl⟩
        have pB : Pu u1 U := by rw [hU]; exact (Pu.refl _).alloc _
        have kB : Blk U u1.heap.size 30 #[.bool wg, .slice wA wn wc] := by rw [hU]; exact Blk.new _ _ _
        replace kA1 := kA1.pu pB
        replace kN := kN.pu pB
        have hw5 := hwas.pu (pU.trans pB)
        have hq5 := hq4.pu (pU.trans pB)
        have hn5 := hn4'.pu (pU.trans pB)
        have HU := Lib.hid hU
        clear hU x0 x1 x2
        go_wp2_with fail
        rw [← HU.out]
        have hP : Pu U U.drew := (Pu.refl U).drew
        have d0 : U.cell? ⟨u1.heap.size, 0, none⟩ = some (.bool wg) := kB.cell 0
        have d1 : U.cell? ⟨u1.heap.size, 1, none⟩ = some (.slice wA wn wc) := kB.cell 1
        have d2 : U.cell? ⟨wr.heap.size, 1, none⟩ = some (.bool qg) := kA1.cell 1
        have d3 : U.cell? ⟨wr.heap.size, 1 + 1, none⟩ = some (.slice qA qn qc) := kA1.cell 2
        have d4 : U.cell? ⟨w.heap.size + 2, 0, none⟩ = some (.bool g3) := kN.cell 0
        have d5 : U.cell? ⟨w.heap.size + 2, 1, none⟩ = some (.slice A3 n3 c3) := kN.cell 1
        have hzb : z.natAbs < 4294967296 ^ 90000 := up_from (a := 30000) (b := 90000) (HH.out.2.2.2.2.1 _ hmg) (by decide)
        have hnb : n.natAbs < 4294967296 ^ 90000 := up_from (a := 30000) (b := 90000) HH.out.2.2.2.1 (by decide)
        have hfb : (factor acc k).natAbs < 4294967296 ^ 90000 := up_from (a := 30000) (b := 90000) (Nat.lt_of_le_of_lt (Nat.le_trans (Hup.out.factor k) (Nat.add_le_add_left (Nat.mul_le_mul_right M (show i ≤ 1100000 by omega)) K)) HH.out.2.2.1) (by decide)
        have hpb : (z * n).natAbs < 4294967296 ^ 90000 := up_from (a := 30000) (b := 90000) (Nat.lt_of_le_of_lt (Nat.le_trans (HH.out.2.1 _ hmg) (by omega)) HH.out.2.2.1) (by decide)
        have HB := Lib.hid (And.intro hzb (And.intro hnb (And.intro hfb hpb)))
        clear hzb hnb hfb hpb
        go_region_held3 (fun t => t.cell? ⟨u1.heap.size, 0, none⟩ = some (.bool wg) ∧ t.cell? ⟨u1.heap.size, 1, none⟩ = some (.slice wA wn wc) ∧ t.cell? ⟨wr.heap.size, 1, none⟩ = some (.bool qg) ∧ t.cell? ⟨wr.heap.size, 1 + 1, none⟩ = some (.slice qA qn qc) ∧ t.cell? ⟨w.heap.size + 2, 0, none⟩ = some (.bool g3) ∧ t.cell? ⟨w.heap.size + 2, 1, none⟩ = some (.slice A3 n3 c3))
          (first | exact Keep6 d0 d1 d2 d3 d4 d5 (by repeat' (first | with_reducible exact hP | with_reducible exact Pu.refl _ | with_reducible refine Pu.drew ?_ | with_reducible refine Pu.alloc ?_ _ | with_reducible refine Pu.setCell ?_ ?_ _ | (dsimp only; omega))) | go_keep)
          (first
            | (go_at_call 50; refine (mul_any _ _ z n _ (hq5.pu (by with_reducible first | exact hP | exact hP.alloc _ | exact Pu.drew (Pu.alloc (Pu.refl _) _))) (hn5.pu (by with_reducible first | exact hP | exact hP.alloc _ | exact Pu.drew (Pu.alloc (Pu.refl _) _))) HB.out.1 HB.out.2.1).mono ?_; rintro e u2 ⟨v5, rfl, h5, p9⟩; with_reducible (first | (have bA := (Blk.new U 30 #[.bool false, .slice none 0 0]).drew.pu p9) | skip); replace hP := Pu.trans (a := U) (by with_reducible first | exact hP | exact hP.alloc _ | exact Pu.drew (Pu.alloc (Pu.refl _) _)) p9; have z12 := hP.size; obtain ⟨g5, A5, m5, c5, rfl⟩ := h5.shape2)
            | (go_at_call 49; refine (addv_any _ (.agg #[.bool g5, .slice A5 m5 c5]) (factor acc k) (z * n) _ _ (hw5.pu (by with_reducible first | exact hP.alloc _ | exact (hP.alloc _).alloc _)) (h5.pu (by with_reducible first | exact (Pu.refl _).alloc _ | exact ((Pu.refl _).alloc _).alloc _)) HB.out.2.2.1 HB.out.2.2.2 (by first | exact Blk.new _ _ _ | exact (Blk.new _ _ _).alloc _ | exact Blk.at_new _ _ _ (size_alloc3 _ _))).mono ?_; rintro e u3 ⟨v6, rfl, h6, p10⟩; with_reducible (first | (replace bA := (bA.alloc _).pu p10) | (have bA := ((Blk.new u2 30 #[.bool false, .slice none 0 0]).alloc _).pu p10) | (have bA := (Blk.at_new (u2.alloc _) 30 #[.bool false, .slice none 0 0] (k := u2.heap.size + 1) (size_alloc3 _ _)).pu p10) | skip); replace hP := Pu.trans (a := U) (by with_reducible first | exact hP.alloc _ | exact (hP.alloc _).alloc _) p10; have z13 := hP.size; obtain ⟨g6, A6, m6, c6, rfl⟩ := h6.shape2; (try (have ka0 := bA.cell 0; have ka1 := bA.cell 1; have kf0 := bA.frozen 0; have kf1 := bA.frozen 1))))
        have hsU : wr.heap.size + 2 ≤ U.heap.size := by
          have h7 := kB.lt
          have h8 := q1.size
          simp at h8
          omega
        all_goals
          first
            | have HS := lies_old hP h6 bA (by first | exact Nat.le_refl _ | omega)
            | have HS := lies_new hP h6
          have pV := (pU.trans pB).trans HS.pu
          have e0 := HS.blk.cell 0
          have e1 := HS.blk.cell 1
          have hsg := sign_any _ _ _ HS.num (up_from (a := 30000) (b := 40000) (Nat.lt_of_le_of_lt (Nat.le_trans (Nat.le_trans (Int.natAbs_add_le _ _) (Nat.add_le_add (Hup.out.factor k) (HH.out.2.1 _ hmg))) (show K + i * M + M ≤ K + 1100000 * M by rw [Nat.add_assoc, ← Nat.succ_mul]; exact Nat.add_le_add_left (Nat.mul_le_mul_right M (by omega)) K)) HH.out.2.2.1) (by decide))
          have hmoV := hmo4.pu pV
          have hhoV := hho4.pu pV
          have kAV := kA1.pu HS.pu
          have HSp := Lib.hid HS
          have hstep := addM_next (n := n) fs Hgi.out
          rw [← Hacc.out] at hstep
          have Hstep := Lib.hid hstep
          have hup2 := addStep_upto Hup.out (HH.out.2.1 _ hmg)
          have Hup2 := Lib.hid hup2
          have hlen2 := addStep_len (n := n) (acc := acc) (g := (k, z))
          clear hP h5 h6 p9 p10 hstep hup2
          clear d0 d1 d2 d3 d4 d5 hw5 hq5 hn5 kB kN
          go_wp2_with fail
          refine hsg.mono ?_
          rintro e u4 ⟨rfl, q4⟩
          have g0 := (kAV.pu q4).cell 0
          have g1' := (HSp.out.blk.pu q4).cell 0
          have g2' := (HSp.out.blk.pu q4).cell 1
          have hnum := HSp.out.num.pu q4
          have hmo7 := hmoV.pu q4
          have hho7 := hhoV.pu q4
          have hF7 := hF.pu (pV.trans q4)
          have hty7 := hmo7.typed
          have hne : (∀ j, (j = b ∨ r' = some j) → (j = b ∨ r = some j) ∨ Wp.heap.size ≤ j) := fun j hj => by
            rcases hj with rfl | hj
            · exact .inl (.inl rfl)
            · rcases hrr with e | ⟨g', e, hge⟩
              · exact .inl (.inr (e ▸ hj))
              · rw [e] at hj
                have e' : g' = j := by injection hj
                subst e'
                exact .inr hge
          have hsz7 : Wp.heap.size ≤ u4.heap.size := hF7.size
          have hlen7 : L.length < 1100000 := by
            have h8 := hho7.1
            have h9 := hHG.1
            omega
          have hlen2 := addStep_len (n := n) (acc := acc) (g := (k, z))
          have Hty7 := Lib.hid hty7
          have Hne := Lib.hid hne
          clear hty7 hne hmoV hhoV kAV pV q4 hmo4 hho4 hF e0 e1 hsg HSb hty
          rcases Decidable.em (factor acc k + z * n = 0) with hx | hx
          · have hs0 : (factor acc k + z * n).sign = 0 := by rw [hx]; rfl
            have haS : addStep n acc (k, z) = dropM acc k := if_pos hx
            have hd := dropZ _ b r' L k _ hmo7
            have Hx := Lib.hid (And.intro hx haS)
            clear hx haS
            generalize (factor acc k + z * n).sign = sg at *
            go_wp2_with fail
            refine hd.mono ?_
            rintro e u5 ⟨rfl, hmo8, f8⟩
            have hho8 := hho7.dropM (k := k) |>.frT f8 Hty7.out
            go_wp2
            go_roundw
            case rel => exact ⟨i + 1, r', _, addStep n acc (k, z), by omega, rfl, hmo8, (by rw [Hx.out.2]; exact hho8), Hstep.out.symm, by omega, (by have h8 := Hup2.out; rw [Nat.succ_mul, ← Nat.add_assoc]; exact h8), hrr, hF7.step f8 Hne.out⟩
            case measure => simp [intOf]; omega
          · have hs0 : (factor acc k + z * n).sign ≠ 0 := by
              intro e
              exact hx (Int.sign_eq_zero_iff_zero.1 e)
            have haS : addStep n acc (k, z) = putM acc k (factor acc k + z * n) := if_neg hx
            have hd := putZ _ b r' L k (g6, A6, m6, c6) _ hmo7 hlen7
            have hho8 := HoldM.put (k := k) (q := (g6, A6, m6, c6)) hho7 hnum
            have Hx := Lib.hid (And.intro hx haS)
            have Hho8 := Lib.hid hho8
            clear hx haS hho8
            generalize (factor acc k + z * n).sign = sg at *
            go_wp2_with fail
            refine hd.mono ?_
            rintro e u5 ⟨rfl, rr, hmo8, hrr8, f8⟩
            have hho9 := Hho8.out.frT f8 Hty7.out
            go_wp2
            go_roundw
            case rel => exact ⟨i + 1, rr, _, addStep n acc (k, z), by omega, rfl, hmo8, (by rw [Hx.out.2]; exact hho9), Hstep.out.symm, by omega, (by have h8 := Hup2.out; rw [Nat.succ_mul, ← Nat.add_assoc]; exact h8), (by
              rcases hrr8 with e | ⟨g', e, hge⟩
              · rcases hrr with e2 | ⟨g2, e2, hg2⟩
                · exact .inl (e.trans e2)
                · exact .inr ⟨g2, e.trans e2, hg2⟩
              · exact .inr ⟨g', e, Nat.le_trans hsz7 hge⟩), hF7.step f8 Hne.out⟩
            case measure => simp [intOf]; omega
      · obtain rfl : i = n4 := by omega
        have hgs : gs.take i = gs := List.take_of_length_le (by rw [← hHG.1]; omega)
        have hac : acc = addM fs gs n := by rw [Hacc.out, hgs]
        have l1 := j1.fr hF (HSb _ (by omega))
        have l2 := j2.fr hF (HSb _ (by omega))
        have l3 := j3.fr hF (HSb _ (by omega))
        have l4 := j4.fr hF (HSb _ (by omega))
        have hz5 := jz.frT hF hty
        have hn5 := jn.frT hF hty
        have hz6 := (TM.rest_ j2t).frT hF hty
        have hP : Pu wr wr.drew := (Pu.refl wr).drew
        have d0 : wr.cell? ⟨w.heap.size, 0, none⟩ = some (.bool g1) := l1.cell 0
        have d1 : wr.cell? ⟨w.heap.size, 1, none⟩ = some (.slice A1 n1 c1) := l1.cell 1
        have d2 : wr.cell? ⟨w.heap.size + 1, 0, none⟩ = some (.bool g2) := l2.cell 0
        have d3 : wr.cell? ⟨w.heap.size + 1, 1, none⟩ = some (.slice A2 n2 c2) := l2.cell 1
        have d4 : wr.cell? ⟨w.heap.size + 2, 0, none⟩ = some (.bool g3) := l3.cell 0
        have d5 : wr.cell? ⟨w.heap.size + 2, 1, none⟩ = some (.slice A3 n3 c3) := l3.cell 1
        have hnb : n.natAbs < 4294967296 ^ 90000 := up_from (a := 30000) (b := 90000) HH.out.2.2.2.1 (by decide)
        have hr1b : r1.natAbs < 4294967296 ^ 90000 := up_from (a := 30000) (b := 90000) HH.out.2.2.2.2.2.1 (by decide)
        have hr2b : r2.natAbs < 4294967296 ^ 90000 := up_from (a := 30000) (b := 90000) HH.out.2.2.2.2.2.2 (by decide)
        have hpb : (r2 * n).natAbs < 4294967296 ^ 90000 := up_mul HH.out.2.2.2.2.2.2 HH.out.2.2.2.1
        have HB := Lib.hid (And.intro hr2b (And.intro hnb (And.intro hr1b hpb)))
        have Hhac := Lib.hid hac
        clear hnb hr1b hr2b hpb hac hgs
        go_wp2_with fail
        go_region_held3 (fun t => t.cell? ⟨w.heap.size, 0, none⟩ = some (.bool g1) ∧ t.cell? ⟨w.heap.size, 1, none⟩ = some (.slice A1 n1 c1) ∧ t.cell? ⟨w.heap.size + 1, 0, none⟩ = some (.bool g2) ∧ t.cell? ⟨w.heap.size + 1, 1, none⟩ = some (.slice A2 n2 c2) ∧ t.cell? ⟨w.heap.size + 2, 0, none⟩ = some (.bool g3) ∧ t.cell? ⟨w.heap.size + 2, 1, none⟩ = some (.slice A3 n3 c3))
          (first | with_reducible exact Keep3F d0 d1 d2 d3 d4 d5 hP _ _ _ (by omega) (by omega) (by omega) | exact Keep6 d0 d1 d2 d3 d4 d5 (by (repeat' (first | with_reducible exact hP | with_reducible exact Pu.refl _ | with_reducible refine Pu.drew ?_ | with_reducible refine Pu.alloc ?_ _ | with_reducible refine Pu.setCell ?_ ?_ _ | (dsimp only; omega)))) | go_keep)
          (first
            | (go_at_call 50; refine (mul_any _ _ r2 n _ (hz6.pu (by with_reducible first | exact hP | exact hP.alloc _ | exact Pu.drew (Pu.alloc (Pu.refl _) _))) (hn5.pu (by with_reducible first | exact hP | exact hP.alloc _ | exact Pu.drew (Pu.alloc (Pu.refl _) _))) HB.out.1 HB.out.2.1).mono ?_; rintro e u2 ⟨v5, rfl, h5, p9⟩; with_reducible (first | (have bA := (Blk.new wr 30 #[.bool false, .slice none 0 0]).drew.pu p9) | skip); replace hP := Pu.trans (a := wr) (by with_reducible first | exact hP | exact hP.alloc _ | exact Pu.drew (Pu.alloc (Pu.refl _) _)) p9; have z12 := hP.size; obtain ⟨g5, A5, m5, c5, rfl⟩ := h5.shape2)
            | (go_at_call 49; refine (addv_any _ (.agg #[.bool g5, .slice A5 m5 c5]) r1 (r2 * n) _ _ (hz5.pu (by with_reducible first | exact hP | exact hP.alloc _ | exact (hP.alloc _).alloc _)) (h5.pu (by with_reducible first | exact Pu.refl _ | exact (Pu.refl _).alloc _ | exact ((Pu.refl _).alloc _).alloc _)) HB.out.2.2.1 HB.out.2.2.2 (by first | exact Blk.new _ _ _ | exact (Blk.new _ _ _).alloc _ | exact Blk.at_new _ _ _ (size_alloc3 _ _) | exact bA)).mono ?_; rintro e u3 ⟨v6, rfl, h6, p10⟩; replace hP := Pu.trans (a := wr) (by with_reducible first | exact hP | exact hP.alloc _ | exact (hP.alloc _).alloc _) p10; have z13 := hP.size; obtain ⟨g6, A6, m6, c6, rfl⟩ := h6.shape2; have l4' := l4.pu hP; have ka0 := l4'.cell 0; have ka1 := l4'.cell 1; have ka2 := l4'.cell 2; have kf0 := l4'.frozen 0; have kf1 := l4'.frozen 1; have kf2 := l4'.frozen 2))
        have hac2 := Hhac.out
        all_goals
          obtain ⟨hB, hfo, htyo⟩ := over_t l4' g6 A6 m6 c6 (some ⟨b, 0, none⟩)
          have f0 := hB.cell 0
          have f1 := hB.cell 1
          have f2 := hB.cell 2
          have hpw : Pu w (((u3.setCell ⟨w.heap.size + 3, 0, none⟩ (.bool g6)).setCell ⟨w.heap.size + 3, 1, none⟩ (.slice A6 m6 c6)).setCell ⟨w.heap.size + 3, 2, none⟩ (.pointer (some ⟨b, 0, none⟩))) := (((PWp.step hF (fun j hj => by
            rcases hj with rfl | hj
            · omega
            · have := (HRow.out j hj).1
              omega)).trans hP).step hfo (fun j hj => by omega))
          have hmo8 := (hmo4.pu hP).fr hfo (fun e => by omega) (fun g hg e => by
            have := ((hmo4.pu hP).row g hg).1
            omega)
          have hho8 := (hho4.pu hP).frT hfo htyo
          have hz8 := h6.frT hfo htyo
          rw [hac2] at hho8
          go_wp2
          exact bodyPost_ret (v := .agg #[.bool g6, .slice A6 m6 c6, .pointer (some ⟨b, 0, none⟩)]) (by simp [results, Tryz.results62, go_sem, f0, f1, f2]) rfl ⟨_, rfl, ⟨g6, A6, m6, c6, b, _, _, rfl, hz8, hmo8.base_ (by omega), hho8⟩, hpw⟩
end
section
set_option linter.unusedVariables false
open Go.RowKit
theorem TMO.base_ {w : World} {base base' : Nat} {v : Value} {rest : Int} {fs : List (Key × Int)} (h : TMO w base v rest fs) (hb : base' ≤ base) : TMO w base' v rest fs := by
  obtain ⟨g, A, n, c, b, r, L, e, hz, hm, hh⟩ := h
  exact ⟨g, A, n, c, b, r, L, e, hz, hm.base_ hb, hh⟩
theorem ZR.zero (w : World) : ZR w (.agg #[.bool false, .slice none 0 0]) 0 :=
  ⟨false, none, 0, 0, [], rfl, Sl.nil _ _ _ _, Below_.nil _, tidy_nil, (fun e => by cases e), ⟨by simp [maxLen], W32.none _ _⟩, rfl⟩
theorem TM.zero (w : World) : TM w (.agg #[.bool false, .slice none 0 0, .pointer none]) 0 [] := ⟨false, none, 0, 0, none, rfl, ZR.zero w, .inl ⟨rfl, rfl⟩⟩
theorem up_zero : (0 : Int).natAbs < 4294967296 ^ 30000 := up_from (n := 0) (a := 1) (b := 30000) (by decide) (by decide)
theorem Upto.nil (K : Nat) : Upto K [] := fun f hf => by cases hf
set_option maxRecDepth 100000 in
theorem ttimes_any (v1 v2 : Value) (r1 n : Int) (fs : List (Key × Int)) (M : Nat) (w : World) (h1 : TM w v1 r1 fs) (h2 : ZR w v2 n)
    (hM : ∀ g ∈ fs, (g.2 * n).natAbs ≤ M) (hL : fs.length < 30000) (hbig : 1100000 * M < 4294967296 ^ 30000) (hn : n.natAbs < 4294967296 ^ 30000) (hg : ∀ g ∈ fs, g.2.natAbs < 4294967296 ^ 30000) (hr1 : r1.natAbs < 4294967296 ^ 30000) :
    Calls Tryz.prog 29 #[v1, v2] w fun e w' => ∃ v, e = .returned v ∧ TMO w' w.heap.size v (r1 * n) (addM [] fs n) ∧ Pu w w' := by
  obtain ⟨g1, A1, n1, c1, m1, rfl⟩ := h1.shape
  obtain ⟨g2, A2, n2, c2, rfl⟩ := h2.shape2
  obtain ⟨W, hWe⟩ : ∃ W, W = ((w.alloc (.cells #[.bool g1, .slice A1 n1 c1, .pointer m1] 33)).alloc (.cells #[.bool g2, .slice A2 n2 c2] 30)).alloc (.cells #[.bool false, .slice none 0 0, .pointer none] 33) := ⟨_, rfl⟩
  have pW : Pu w W := by rw [hWe]; exact (((Pu.refl w).alloc _).alloc _).alloc _
  have k4 : Blk W (w.heap.size + 2) 33 #[.bool false, .slice none 0 0, .pointer none] := by rw [hWe]; exact Blk.at_new _ _ _ (by simp)
  have ha := tadd_own _ _ _ 0 r1 n [] fs 0 M W (TM.zero W) (h1.pu pW) (h2.pu pW) (Upto.nil 0) hM (by simpa using hL) (by rw [Nat.zero_add]; exact hbig) hn hg up_zero hr1
  have Ha := Lib.hid ha
  have HWe := Lib.hid hWe
  rw [hWe] at Ha
  clear hWe ha h1 h2 hM hbig hn hg hr1
  go_enter Tryz.func29, Tryz.ntmps29
  go_wp2_with fail
  refine Ha.out.mono ?_
  rintro e w1 ⟨v, rfl, ht, p1⟩
  rw [← HWe.out] at p1
  obtain ⟨g, A, n', c, m, rfl⟩ := ht.tm.shape
  have kB0 := k4.pu p1
  have c0 := kB0.cell 0
  have c1 := kB0.cell 1
  have c2 := kB0.cell 2
  have f0 := kB0.frozen 0
  have f1 := kB0.frozen 1
  have f2 := kB0.frozen 2
  obtain ⟨kB, fB, tB⟩ := over_t kB0 g A n' c m
  have HB := Lib.hid (And.intro ((pW.trans p1).step fB (fun i e => by
    have e' : i = w.heap.size + 2 := e
    omega)) (ht.frT fB (fun i e => by
    have e' : i = w.heap.size + 2 := e
    rw [← HWe.out]
    have := k4.lt
    omega) tB))
  have r0 := kB.cell 0
  have r1' := kB.cell 1
  have r2 := kB.cell 2
  clear kB fB tB ht kB0 k4 p1
  go_wp2
  exact bodyPost_ret (v := .agg #[.bool g, .slice A n' c, .pointer m]) (by simp [results, Tryz.results29, go_sem, r0, r1', r2]) rfl ⟨_, rfl, (by have h5 := HB.out.2.base_ (base' := w.heap.size) (by simp; omega); rw [Int.zero_add] at h5; exact h5), HB.out.1⟩
theorem tfactor_any (v : Value) (rest : Int) (k : Key) (fs : List (Key × Int)) (w : World) (h : TM w v rest fs) :
    Calls Tryz.prog 14 #[v, .string ⟨k.toArray⟩] w fun e w' => ∃ v', e = .returned v' ∧ ZR w' v' (factor fs k) ∧ Pu w w' := by
  obtain ⟨g, A, n, c, m, rfl, h2, h3⟩ := h
  rcases h3 with ⟨rfl, rfl⟩ | ⟨b, L, rfl, h4, h5⟩
  · have pA : Pu w (w.alloc (.cells #[.bool g, .slice A n c, .pointer none] 33)) := (Pu.refl w).alloc _
    clear h2
    have k : Blk ((w.alloc (.cells #[.bool g, .slice A n c, .pointer none] 33)).alloc (.cells #[.bool false, .slice none 0 0] 30)) (w.heap.size + 1) 30 #[.bool false, .slice none 0 0] := Blk.at_new _ _ _ (by simp)
    have r0 := k.cell 0
    have r1 := k.cell 1
    go_enter Tryz.func14, Tryz.ntmps14
    go_wp2
    exact bodyPost_ret (v := .agg #[.bool false, .slice none 0 0]) (by simp [results, Tryz.results14, go_sem, r0, r1]) rfl ⟨_, rfl, ZR.zero _, pA.alloc _⟩
  · have pA : Pu w ((w.alloc (.cells #[.bool g, .slice A n c, .pointer (some ⟨b, 0, none⟩)] 33)).alloc (.cells #[.bool false, .slice none 0 0] 30)) := ((Pu.refl w).alloc _).alloc _
    have hm := h4.pu pA
    have k2 : Blk ((w.alloc (.cells #[.bool g, .slice A n c, .pointer (some ⟨b, 0, none⟩)] 33)).alloc (.cells #[.bool false, .slice none 0 0] 30)) (w.heap.size + 1) 30 #[.bool false, .slice none 0 0] := Blk.at_new _ _ _ (by simp)
    have hp := getZ b L k _ hm
    have hz := h5.get (k := k) h4.rise
    generalize gvZ L k = gw at *
    obtain ⟨wg, wA, wn, wc, rfl⟩ := hz.shape2
    have hz1 := hz.pu pA
    have Hz := Lib.hid hz1
    clear h2 h4 h5 hm hz hz1
    go_enter Tryz.func14, Tryz.ntmps14
    go_wp2_with fail
    refine hp.mono ?_
    rintro e w1 ⟨rfl, p1⟩
    have k3 := (k2.pu p1).alloc (.cells #[.bool wg, .slice wA wn wc] 30)
    have c0 := k3.cell 0
    have c1 := k3.cell 1
    have f0 := k3.frozen 0
    have f1 := k3.frozen 1
    obtain ⟨kB, fB⟩ := over_n k3 wg wA wn wc
    obtain ⟨_, _, rz, rp⟩ := store_num k3 wg wA wn wc
    have hz9 := rz _ _ (Hz.out.pu (p1.alloc (.cells #[.bool wg, .slice wA wn wc] 30)))
    have hp9 := rp _ (pA.trans (p1.alloc (.cells #[.bool wg, .slice wA wn wc] 30))) (by omega)
    have r0 := kB.cell 0
    have r1 := kB.cell 1
    have HZ := Lib.hid (And.intro hz9 hp9)
    clear kB fB rz rp hz9 hp9 k3 Hz p1 k2
    go_wp2
    exact bodyPost_ret (v := .agg #[.bool wg, .slice wA wn wc]) (by simp [results, Tryz.results14, go_sem, r0, r1]) rfl ⟨_, rfl, HZ.out.1, HZ.out.2⟩
end
section
set_option linter.unusedVariables false
open Go.RowKit
theorem up_one {z : Int} (h : z.natAbs ≤ 1) : z.natAbs < 4294967296 ^ 30000 := up_from (n := z.natAbs) (a := 1) (b := 30000) (Nat.lt_of_le_of_lt h (by decide)) (by decide)
theorem Keep6T {U V : World} {b b' c : Nat} {v0 v1 v2 v3 v4 v5 : Value} (h0 : U.cell? ⟨b, 0, none⟩ = some v0) (h1 : U.cell? ⟨b, 1, none⟩ = some v1) (h2 : U.cell? ⟨b, 2, none⟩ = some v2) (h3 : U.cell? ⟨b', 0, none⟩ = some v3) (h4 : U.cell? ⟨b', 1, none⟩ = some v4) (h5 : U.cell? ⟨b', 2, none⟩ = some v5) (p : Pu U V) (x y z : Value) (n0 : b ≠ c) (n1 : b' ≠ c) :
    (((V.setCell ⟨c, 0, none⟩ x).setCell ⟨c, 1, none⟩ y).setCell ⟨c, 2, none⟩ z).cell? ⟨b, 0, none⟩ = some v0 ∧ (((V.setCell ⟨c, 0, none⟩ x).setCell ⟨c, 1, none⟩ y).setCell ⟨c, 2, none⟩ z).cell? ⟨b, 1, none⟩ = some v1 ∧ (((V.setCell ⟨c, 0, none⟩ x).setCell ⟨c, 1, none⟩ y).setCell ⟨c, 2, none⟩ z).cell? ⟨b, 2, none⟩ = some v2 ∧ (((V.setCell ⟨c, 0, none⟩ x).setCell ⟨c, 1, none⟩ y).setCell ⟨c, 2, none⟩ z).cell? ⟨b', 0, none⟩ = some v3 ∧ (((V.setCell ⟨c, 0, none⟩ x).setCell ⟨c, 1, none⟩ y).setCell ⟨c, 2, none⟩ z).cell? ⟨b', 1, none⟩ = some v4 ∧ (((V.setCell ⟨c, 0, none⟩ x).setCell ⟨c, 1, none⟩ y).setCell ⟨c, 2, none⟩ z).cell? ⟨b', 2, none⟩ = some v5 := by
  have hf : Fr (fun j => j = c) U (((V.setCell ⟨c, 0, none⟩ x).setCell ⟨c, 1, none⟩ y).setCell ⟨c, 2, none⟩ z) := ((Pu.fr p (S := fun j => j = c)).trans (Fr.one V c 0 x)).trans (Fr.one _ c 1 y) |>.trans (Fr.one _ c 2 z)
  exact ⟨hf.cellv h0 n0, hf.cellv h1 n0, hf.cellv h2 n0, hf.cellv h3 n1, hf.cellv h4 n1, hf.cellv h5 n1⟩
set_option maxHeartbeats 1600000 in
set_option maxRecDepth 100000 in
theorem tminus_any (v1 v2 : Value) (r1 r2 : Int) (fs gs : List (Key × Int)) (K M : Nat) (w : World) (h1 : TM w v1 r1 fs) (h2 : TM w v2 r2 gs)
    (hK : Upto K fs) (hM : Upto M gs) (hL : fs.length + gs.length < 30000) (hbig : K + 1100000 * M < 4294967296 ^ 30000) (hr1 : r1.natAbs < 4294967296 ^ 30000) (hr2 : r2.natAbs < 4294967296 ^ 30000) :
    Calls Tryz.prog 55 #[v1, v2] w fun e w' => ∃ v, e = .returned v ∧ TMO w' w.heap.size v (r1 + r2 * (-1)) (addM fs gs (-1)) ∧ Pu w w' := by
  obtain ⟨g1, A1, n1, c1, m1, rfl⟩ := h1.shape
  obtain ⟨g2, A2, n2, c2, m2, rfl⟩ := h2.shape
  have hadd : ∀ W v3, Pu w W → ZR W v3 (-1) → Calls Tryz.prog 62 #[.agg #[.bool g1, .slice A1 n1 c1, .pointer m1], .agg #[.bool g2, .slice A2 n2 c2, .pointer m2], v3] W fun e w' => ∃ v, e = .returned v ∧ TMO w' W.heap.size v (r1 + r2 * (-1)) (addM fs gs (-1)) ∧ Pu W w' := fun W v3 p hz =>
    tadd_own _ _ _ r1 r2 (-1) fs gs K M W (h1.pu p) (h2.pu p) hz hK (fun g hg => by
      have := hM g hg
      omega) hL hbig (up_one (by decide)) (fun g hg => Nat.lt_of_le_of_lt (Nat.le_trans (hM g hg) (by omega)) hbig) hr1 hr2
  have Hadd := Lib.hid hadd
  obtain ⟨W, hWe⟩ : ∃ W, W = ((w.alloc (.cells #[.bool g1, .slice A1 n1 c1, .pointer m1] 33)).alloc (.cells #[.bool g2, .slice A2 n2 c2, .pointer m2] 33)).alloc (.cells #[.bool false, .slice none 0 0, .pointer none] 33) := ⟨_, rfl⟩
  have pW : Pu w W := by rw [hWe]; exact (((Pu.refl w).alloc _).alloc _).alloc _
  have k1 : Blk W w.heap.size 33 #[.bool g1, .slice A1 n1 c1, .pointer m1] := by rw [hWe]; exact ((Blk.new w _ _).alloc _).alloc _
  have k2 : Blk W (w.heap.size + 1) 33 #[.bool g2, .slice A2 n2 c2, .pointer m2] := by rw [hWe]; exact (Blk.at_new _ _ _ (by simp)).alloc _
  have k4 : Blk W (w.heap.size + 2) 33 #[.bool false, .slice none 0 0, .pointer none] := by rw [hWe]; exact Blk.at_new _ _ _ (by simp)
  have d0 : W.cell? ⟨w.heap.size, 0, none⟩ = some (.bool g1) := k1.cell 0
  have d1 : W.cell? ⟨w.heap.size, 1, none⟩ = some (.slice A1 n1 c1) := k1.cell 1
  have d2 : W.cell? ⟨w.heap.size, 2, none⟩ = some (.pointer m1) := k1.cell 2
  have d3 : W.cell? ⟨w.heap.size + 1, 0, none⟩ = some (.bool g2) := k2.cell 0
  have d4 : W.cell? ⟨w.heap.size + 1, 1, none⟩ = some (.slice A2 n2 c2) := k2.cell 1
  have d5 : W.cell? ⟨w.heap.size + 1, 2, none⟩ = some (.pointer m2) := k2.cell 2
  have hP : Pu W W.drew := (Pu.refl W).drew
  have HWe := Lib.hid hWe
  clear hWe hadd h1 h2 hK hM hbig hr1 hr2
  go_enter Tryz.func55, Tryz.ntmps55
  go_wp2_with fail
  rw [← HWe.out]
  go_region_held3 (fun t => t.cell? ⟨w.heap.size, 0, none⟩ = some (.bool g1) ∧ t.cell? ⟨w.heap.size, 1, none⟩ = some (.slice A1 n1 c1) ∧ t.cell? ⟨w.heap.size, 2, none⟩ = some (.pointer m1) ∧ t.cell? ⟨w.heap.size + 1, 0, none⟩ = some (.bool g2) ∧ t.cell? ⟨w.heap.size + 1, 1, none⟩ = some (.slice A2 n2 c2) ∧ t.cell? ⟨w.heap.size + 1, 2, none⟩ = some (.pointer m2))
    (first | with_reducible exact Keep6T d0 d1 d2 d3 d4 d5 hP _ _ _ (by omega) (by omega) | with_reducible exact Keep6 d0 d1 d2 d3 d4 d5 hP | with_reducible exact Keep6 d0 d1 d2 d3 d4 d5 (Pu.refl _) | go_keep)
    (first
      | (go_at_call 30; refine (from_any (-1) _ (by decide) (by decide)).mono ?_; rintro e u2 ⟨v5, rfl, h5, p9⟩; replace hP := hP.trans p9; have z12 := hP.size; obtain ⟨g5, A5, m5, c5, rfl⟩ := h5.shape2)
      | (go_at_call 62; refine (Hadd.out _ _ (pW.trans hP) h5).mono ?_; rintro e u3 ⟨v6, rfl, h6, p10⟩; replace hP := hP.trans p10; obtain ⟨g6, A6, m6, c6, q6, rfl⟩ := h6.tm.shape; have l4' := k4.pu hP; have ka0 := l4'.cell 0; have ka1 := l4'.cell 1; have ka2 := l4'.cell 2; have kf0 := l4'.frozen 0; have kf1 := l4'.frozen 1; have kf2 := l4'.frozen 2))
  have hsz : W.heap.size = w.heap.size + 3 := by rw [HWe.out]; simp
  all_goals
    obtain ⟨kB, fB, tB⟩ := over_t l4' g6 A6 m6 c6 q6
    have h7 := (h6.frT fB (fun i e => by
      have e' : i = w.heap.size + 2 := e
      omega) tB).base_ (base' := w.heap.size) (by omega)
    have p7 := (pW.trans hP).step fB (fun i e => by
      have e' : i = w.heap.size + 2 := e
      omega)
    have r0' := kB.cell 0
    have r1' := kB.cell 1
    have r2' := kB.cell 2
    have H7 := Lib.hid (And.intro h7 p7)
    clear kB fB tB h7 p7 h6
    go_wp2
    exact bodyPost_ret (v := .agg #[.bool g6, .slice A6 m6 c6, .pointer q6]) (by simp [results, Tryz.results55, go_sem, r0', r1', r2']) rfl ⟨_, rfl, H7.out.1, H7.out.2⟩
end
end Go.Proofs.YtckfnbckoclhpaaGreatDoor
