/- The document's terms: Plus is in bounds and ends (printed by mkrplus.py). -/
import Derived.Shelf.SlSortCmp.NoneTotal
import Derived.Shelf.SlSortCmp.WholeK
import Derived.Ground.SlsfProg
import Derived.Lib.Builder
import Derived.Test.YtckfnbckoclhpaaGreatDoorE24
import Derived.Test.YtckfnbckoclhpaaGreatDoorCH
import Derived.Deep.RegionHeld3
import Derived.Deep.RegionLaw
import Derived.Deep.QuietTactic
import Derived.StillTailTactics
namespace Go.Proofs.YtckfnbckoclhpaaGreatDoor
section
set_option linter.unusedVariables false
open Go.RowKit
theorem kts_cell {w : World} {A : Option Addr} {n c i : Nat} {ks : List Key} (h : Sl w 1 A n c (kts ks)) (hi : i < n) : ∃ (b off : Nat) (k : Key), A = some ⟨b, off, none⟩ ∧ b < w.heap.size ∧ w.cell? ⟨b, off + i, none⟩ = some (.string ⟨k.toArray⟩) := by
  obtain ⟨b, off, u, h1, h2, h3, h4⟩ := h.at_ hi
  unfold kts at h3
  rw [List.getElem?_map] at h3
  cases e : ks[i]? with
  | none => rw [e] at h3; cases h3
  | some k =>
    rw [e] at h3
    injection h3 with h3
    exact ⟨b, off, k, h1, h2, by rw [h4, ← h3]⟩
theorem fac_at {w : World} {A : Option Addr} {n c i : Nat} {L : List RawZ} (h : Sl w 2 A n c (cat RawZ.cells L)) (hi : i < n) : ∃ q b off, L[i]? = some q ∧ A = some ⟨b, off, none⟩ ∧ b < w.heap.size ∧ w.cell? ⟨b, off + i * 2, none⟩ = some (.int .i64 q.s) ∧ w.cell? ⟨b, off + i * 2 + 1, none⟩ = some (.slice q.A q.n q.c) := by
  have hl : L.length = n := Sl.clen RawZ.cells_len (by decide) h
  obtain ⟨q, hq⟩ : ∃ q, L[i]? = some q := ⟨_, List.getElem?_eq_getElem (by omega)⟩
  obtain ⟨b, off, h1, h2, h3⟩ := cat_at RawZ.cells_len (by decide) h hq
  exact ⟨q, b, off, hq, h1, h2, h3 0 _ rfl, h3 1 _ rfl⟩
structure PlusAt (Z wr : World) (b7 n' : Nat) (An : Option Addr) (cn : Nat) (Af : Option Addr) (cf : Nat) (r : RawZ) (B : Nat) : Prop where
  blk : Blk wr b7 56 #[.slice An n' cn, .slice Af n' cf, .int .i64 r.s, .slice r.A r.n r.c]
  to : TO wr Z.heap.size An n' cn Af cf r B
  fr : Fr (fun j => j = b7 ∨ Z.heap.size ≤ j) Z wr
theorem PlusAt.pu {Z wr : World} {b7 n' : Nat} {An : Option Addr} {cn : Nat} {Af : Option Addr} {cf : Nat} {r : RawZ} {B : Nat} (h : PlusAt Z wr b7 n' An cn Af cf r B) {w' : World} (p : Pu wr w') : PlusAt Z w' b7 n' An cn Af cf r B := ⟨h.blk.pu p, h.to.pu p, h.fr.pu p⟩
theorem PlusAt.next {Z wr : World} {b7 n' : Nat} {An : Option Addr} {cn : Nat} {Af : Option Addr} {cf : Nat} {r : RawZ} {B : Nat} (h : PlusAt Z wr b7 n' An cn Af cf r B) (hb : b7 < Z.heap.size) {w5 : World} {A1 : Option Addr} {n1 c1 : Nat} {A2 : Option Addr} {c2 : Nat} (hT : TO w5 Z.heap.size A1 n1 c1 A2 c2 r B) (hF : Fr (fun j => Z.heap.size ≤ j) wr w5) :
    PlusAt Z ((((w5.setCell ⟨b7, 0, none⟩ (.slice A1 n1 c1)).setCell ⟨b7, 1, none⟩ (.slice A2 n1 c2)).setCell ⟨b7, 2, none⟩ (.int .i64 r.s)).setCell ⟨b7, 3, none⟩ (.slice r.A r.n r.c)) b7 n1 A1 c1 A2 c2 r B := by
  have k5 := h.blk.fr hF (by show ¬ Z.heap.size ≤ b7; omega)
  obtain ⟨kR, e⟩ := over_T k5 (.slice A1 n1 c1) (.slice A2 n1 c2) (.int .i64 r.s) (.slice r.A r.n r.c)
  exact ⟨kR, hT.frT e (fun g hg => by
    subst hg
    exact ⟨_, _, _, k5, by decide⟩), (h.fr.step hF (fun i hi => .inl (.inr hi))).step e (fun i hi => .inl (.inl hi))⟩
theorem plus_new {u : World} {s : Int} {A : Option Addr} {n c B : Nat} (h : NZ_ u B (.agg #[.int .i64 s, .slice A n c])) : PlusAt (u.alloc (.cells #[.slice none 0 0, .slice none 0 0, .int .i64 s, .slice A n c] 56)) (u.alloc (.cells #[.slice none 0 0, .slice none 0 0, .int .i64 s, .slice A n c] 56)) u.heap.size 0 none 0 none 0 ⟨s, A, n, c⟩ B :=
  ⟨Blk.new _ _ _, TO.nil (h.pu ((Pu.refl _).alloc _)), Fr.refl _ _⟩
theorem plus_old {u : World} {b : Nat} {s : Int} {A : Option Addr} {n c B : Nat} (k : Blk u b 56 #[.slice none 0 0, .slice none 0 0, .int .i64 0, .slice none 0 0]) (h : NZ_ u B (.agg #[.int .i64 s, .slice A n c])) :
    PlusAt ((((u.setCell ⟨b, 0, none⟩ (.slice none 0 0)).setCell ⟨b, 1, none⟩ (.slice none 0 0)).setCell ⟨b, 2, none⟩ (.int .i64 s)).setCell ⟨b, 3, none⟩ (.slice A n c)) ((((u.setCell ⟨b, 0, none⟩ (.slice none 0 0)).setCell ⟨b, 1, none⟩ (.slice none 0 0)).setCell ⟨b, 2, none⟩ (.int .i64 s)).setCell ⟨b, 3, none⟩ (.slice A n c)) b 0 none 0 none 0 ⟨s, A, n, c⟩ B := by
  obtain ⟨kR, e⟩ := over_T k (.slice none 0 0) (.slice none 0 0) (.int .i64 s) (.slice A n c)
  exact ⟨kR, TO.nil (h.frT e (typed_blk k (by decide))), Fr.refl _ _⟩
theorem over_F (W : World) (b : Nat) (y0 y1 y2 y3 : Value) {B : Nat} (hb : B ≤ b) : Fr (fun j => B ≤ j) W ((((W.setCell ⟨b, 0, none⟩ y0).setCell ⟨b, 1, none⟩ y1).setCell ⟨b, 2, none⟩ y2).setCell ⟨b, 3, none⟩ y3) :=
  (((Fr.setCell (Fr.refl _ _) (.inl hb) _).setCell (.inl hb) _).setCell (.inl hb) _).setCell (.inl hb) _
theorem size4 (u : World) (a b c d : Addr) (x y z v : Value) : ((((u.setCell a x).setCell b y).setCell c z).setCell d v).heap.size = u.heap.size := by simp [World.setCell]
theorem KeepP7 {U V : World} {p0 p1 p2 p3 p4 p5 p6 : Addr} {v0 v1 v2 v3 v4 v5 v6 : Value} (h0 : U.cell? p0 = some v0) (h1 : U.cell? p1 = some v1) (h2 : U.cell? p2 = some v2) (h3 : U.cell? p3 = some v3) (h4 : U.cell? p4 = some v4) (h5 : U.cell? p5 = some v5) (h6 : U.cell? p6 = some v6) (p : Pu U V) :
    V.cell? p0 = some v0 ∧ V.cell? p1 = some v1 ∧ V.cell? p2 = some v2 ∧ V.cell? p3 = some v3 ∧ V.cell? p4 = some v4 ∧ V.cell? p5 = some v5 ∧ V.cell? p6 = some v6 := ⟨p.cellv h0, p.cellv h1, p.cellv h2, p.cellv h3, p.cellv h4, p.cellv h5, p.cellv h6⟩
theorem KeepL7 {U V : World} {B : Nat} {p0 p1 p2 p3 p4 p5 p6 : Addr} {v0 v1 v2 v3 v4 v5 v6 : Value} (h0 : U.cell? p0 = some v0) (h1 : U.cell? p1 = some v1) (h2 : U.cell? p2 = some v2) (h3 : U.cell? p3 = some v3) (h4 : U.cell? p4 = some v4) (h5 : U.cell? p5 = some v5) (h6 : U.cell? p6 = some v6) (n0 : p0.block < B) (n1 : p1.block < B) (n2 : p2.block < B) (n3 : p3.block < B) (n4 : p4.block < B) (n5 : p5.block < B) (n6 : p6.block < B) (p : Fr (fun j => B ≤ j) U V) :
    V.cell? p0 = some v0 ∧ V.cell? p1 = some v1 ∧ V.cell? p2 = some v2 ∧ V.cell? p3 = some v3 ∧ V.cell? p4 = some v4 ∧ V.cell? p5 = some v5 ∧ V.cell? p6 = some v6 := ⟨p.cellv h0 (Nat.not_le.2 n0), p.cellv h1 (Nat.not_le.2 n1), p.cellv h2 (Nat.not_le.2 n2), p.cellv h3 (Nat.not_le.2 n3), p.cellv h4 (Nat.not_le.2 n4), p.cellv h5 (Nat.not_le.2 n5), p.cellv h6 (Nat.not_le.2 n6)⟩
theorem KeepP10 {U V : World} {p0 p1 p2 p3 p4 p5 p6 p7 p8 p9 : Addr} {v0 v1 v2 v3 v4 v5 v6 v7 v8 v9 : Value} (h0 : U.cell? p0 = some v0) (h1 : U.cell? p1 = some v1) (h2 : U.cell? p2 = some v2) (h3 : U.cell? p3 = some v3) (h4 : U.cell? p4 = some v4) (h5 : U.cell? p5 = some v5) (h6 : U.cell? p6 = some v6) (h7 : U.cell? p7 = some v7) (h8 : U.cell? p8 = some v8) (h9 : U.cell? p9 = some v9) (p : Pu U V) :
    V.cell? p0 = some v0 ∧ V.cell? p1 = some v1 ∧ V.cell? p2 = some v2 ∧ V.cell? p3 = some v3 ∧ V.cell? p4 = some v4 ∧ V.cell? p5 = some v5 ∧ V.cell? p6 = some v6 ∧ V.cell? p7 = some v7 ∧ V.cell? p8 = some v8 ∧ V.cell? p9 = some v9 := ⟨p.cellv h0, p.cellv h1, p.cellv h2, p.cellv h3, p.cellv h4, p.cellv h5, p.cellv h6, p.cellv h7, p.cellv h8, p.cellv h9⟩
theorem KeepL10 {U V : World} {B : Nat} {p0 p1 p2 p3 p4 p5 p6 p7 p8 p9 : Addr} {v0 v1 v2 v3 v4 v5 v6 v7 v8 v9 : Value} (h0 : U.cell? p0 = some v0) (h1 : U.cell? p1 = some v1) (h2 : U.cell? p2 = some v2) (h3 : U.cell? p3 = some v3) (h4 : U.cell? p4 = some v4) (h5 : U.cell? p5 = some v5) (h6 : U.cell? p6 = some v6) (h7 : U.cell? p7 = some v7) (h8 : U.cell? p8 = some v8) (h9 : U.cell? p9 = some v9) (n0 : p0.block < B) (n1 : p1.block < B) (n2 : p2.block < B) (n3 : p3.block < B) (n4 : p4.block < B) (n5 : p5.block < B) (n6 : p6.block < B) (n7 : p7.block < B) (n8 : p8.block < B) (n9 : p9.block < B) (p : Fr (fun j => B ≤ j) U V) :
    V.cell? p0 = some v0 ∧ V.cell? p1 = some v1 ∧ V.cell? p2 = some v2 ∧ V.cell? p3 = some v3 ∧ V.cell? p4 = some v4 ∧ V.cell? p5 = some v5 ∧ V.cell? p6 = some v6 ∧ V.cell? p7 = some v7 ∧ V.cell? p8 = some v8 ∧ V.cell? p9 = some v9 := ⟨p.cellv h0 (Nat.not_le.2 n0), p.cellv h1 (Nat.not_le.2 n1), p.cellv h2 (Nat.not_le.2 n2), p.cellv h3 (Nat.not_le.2 n3), p.cellv h4 (Nat.not_le.2 n4), p.cellv h5 (Nat.not_le.2 n5), p.cellv h6 (Nat.not_le.2 n6), p.cellv h7 (Nat.not_le.2 n7), p.cellv h8 (Nat.not_le.2 n8), p.cellv h9 (Nat.not_le.2 n9)⟩
set_option maxHeartbeats 16000000 in
set_option maxRecDepth 100000 in
theorem rplusT_any (Bt Bu B : Nat) (An : Option Addr) (n cn : Nat) (Af : Option Addr) (cf : Nat) (r : RawZ) (Am : Option Addr) (m cm : Nat) (Ag : Option Addr) (cg : Nat) (r2 : RawZ) (q : RawZ) (z : Int) (w : World) (ht : TR w An n cn Af cf r Bt) (hu : TR w Am m cm Ag cg r2 Bu) (hz : RZ w q.val z)
    (hB : Bt + Bu * z.natAbs ≤ B) (hB2 : B < 10 ^ 200) (hz2 : z.natAbs < 10 ^ 200) (hBu : Bu < 10 ^ 200) (hn : n + m ≤ 900) :
    Calls Tryz.prog 45 #[tval An n cn Af n cf r, tval Am m cm Ag m cg r2, q.val] w fun e w' => ∃ An' n' cn' Af' cf' r', e = .returned (tval An' n' cn' Af' n' cf' r') ∧ n' ≤ n + m ∧ TR w' An' n' cn' Af' cf' r' B ∧ Pu w w' := by
  obtain ⟨qs, qA, qn, qc⟩ := q
  obtain ⟨rs, rA, rn, rc⟩ := r
  obtain ⟨us, uA, un, uc⟩ := r2
  unfold tval
  unfold RawZ.val at hz ⊢
  dsimp only at hz ⊢
  obtain ⟨W, hWe⟩ : ∃ W, W = (((w.alloc (.cells #[.slice An n cn, .slice Af n cf, .int .i64 rs, .slice rA rn rc] 56)).alloc (.cells #[.slice Am m cm, .slice Ag m cg, .int .i64 us, .slice uA un uc] 56)).alloc (.cells #[.int .i64 qs, .slice qA qn qc] 54)).alloc (.cells #[.slice none 0 0, .slice none 0 0, .int .i64 0, .slice none 0 0] 56) := ⟨_, rfl⟩
  have pW : Pu w W := by rw [hWe]; exact ((((Pu.refl w).alloc _).alloc _).alloc _).alloc _
  have k3 : Blk W w.heap.size 56 #[.slice An n cn, .slice Af n cf, .int .i64 rs, .slice rA rn rc] := by rw [hWe]; exact (((Blk.new w _ _).alloc _).alloc _).alloc _
  have k4 : Blk W (w.heap.size + 1) 56 #[.slice Am m cm, .slice Ag m cg, .int .i64 us, .slice uA un uc] := by rw [hWe]; exact ((Blk.at_new _ _ _ (by simp)).alloc _).alloc _
  have k5 : Blk W (w.heap.size + 1 + 1) 54 #[.int .i64 qs, .slice qA qn qc] := by rw [hWe]; exact (Blk.at_new _ _ _ (by simp)).alloc _
  have k6 : Blk W (w.heap.size + 1 + 1 + 1) 56 #[.slice none 0 0, .slice none 0 0, .int .i64 0, .slice none 0 0] := by rw [hWe]; exact Blk.at_new _ _ _ (by simp)
  have Hsz := Lib.hid (show W.heap.size = w.heap.size + 4 by rw [hWe]; simp)
  have HWe := Lib.hid hWe
  have hBt : Bt ≤ B := Nat.le_trans (Nat.le_add_right _ _) hB
  have Hmul := Lib.hid (show ∀ V v, Pu w V → NZ_ V Bu v → Calls Tryz.prog 79 #[v, .agg #[.int .i64 qs, .slice qA qn qc]] V fun e w' => ∃ (y : Int) (s : Int) (A : Option Addr) (n c : Nat), e = .returned (.agg #[.int .i64 s, .slice A n c]) ∧ RZ w' (.agg #[.int .i64 s, .slice A n c]) y ∧ Bt + y.natAbs ≤ B ∧ Pu V w' from fun V v p hv => by
    obtain ⟨x, h1, h2⟩ := hv
    refine (rmul_any v _ x z V h1 (hz.pu p) (Nat.lt_of_le_of_lt h2 hBu) hz2).mono ?_
    rintro e w' ⟨v', rfl, h3, h4⟩
    obtain ⟨s, A, n, c, rfl⟩ := h3.raw
    refine ⟨x * z, s, A, n, c, rfl, h3, ?_, h4⟩
    rw [Int.natAbs_mul]
    exact Nat.le_trans (Nat.add_le_add_left (Nat.mul_le_mul_right _ h2) _) hB)
  have Hadd := Lib.hid (show ∀ V v v2 (y : Int), NZ_ V Bt v → RZ V v2 y → Bt + y.natAbs ≤ B → Calls Tryz.prog 78 #[v, v2] V fun e w' => ∃ (s : Int) (A : Option Addr) (n c : Nat), e = .returned (.agg #[.int .i64 s, .slice A n c]) ∧ NZ_ w' B (.agg #[.int .i64 s, .slice A n c]) ∧ Pu V w' from fun V v v2 y hv h2 hy => by
    obtain ⟨x, h1, h3⟩ := hv
    refine (radd_any v v2 x y V h1 h2 (Nat.lt_of_le_of_lt (Nat.le_trans h3 hBt) hB2) (Nat.lt_of_le_of_lt (Nat.le_trans (Nat.le_add_left _ _) hy) hB2)).mono ?_
    rintro e w' ⟨v', rfl, h4, h5⟩
    obtain ⟨s, A, n, c, rfl⟩ := h4.raw
    exact ⟨s, A, n, c, rfl, ⟨_, h4, Nat.le_trans (Nat.le_trans (Int.natAbs_add_le _ _) (Nat.add_le_add_right h3 _)) hy⟩, h5⟩)
  obtain ⟨⟨ks, htn⟩, ⟨L, htf, htz⟩, htr⟩ := ht
  obtain ⟨⟨ks2, hun⟩, ⟨L2, huf, huz⟩, hur⟩ := hu
  have HT := Lib.hid (And.intro htn (And.intro htf (And.intro htz htr)))
  have HU := Lib.hid (And.intro hun (And.intro huf (And.intro huz hur)))
  clear hWe htn htf htz htr hun huf huz hur hz hB hB2 hz2 hBu
  go_enter Tryz.func45, Tryz.ntmps45
  go_wp2_with fail
  rw [← HWe.out]
  rename_i K1 hK1
  have key : ∀ (x0 x1 x2 x8 x9 x10 x11 x12 x13 x14 x15 x16 x17 x18 x19 x20 x21 x22 x23 x24 x25 x26 x27 x28 x29 x30 x31 x32 x33 x34 x35 x36 x37 x38 x39 x40 x41 x42 x43 x44 x45 x46 x47 x48 x49 x50 x51 x52 x53 x54 x55 x56 x57 x58 x59 x60 x61 x62 x63 x64 x65 x66 x67 x68 x69 x70 x71 x72 x73 x74 x75 x76 x77 x78 x79 x80 x81 x82 x83 x84 x85 x86 x87 x88 x89 x90 x91 x92 x93 x94 x95 x96 x97 x98 x99 x100 x101 x102 x103 x104 x105 x106 x107 x108 x109 x110 x111 x112 x113 x114 x115 x116 x117 x118 x119 x120 x121 x122 x123 x124 x125 x126 x127 : Value) (b7 : Nat) (s : Int) (A : Option Addr) (nr c : Nat) (Z : World), w.heap.size + 4 ≤ b7 → b7 < Z.heap.size → PlusAt Z Z b7 0 none 0 none 0 ⟨s, A, nr, c⟩ B → Pu W Z → K1 { tmps := #[x0, x1, x2, ptr w.heap.size, ptr (w.heap.size + 1), ptr (w.heap.size + 1 + 1), ptr (w.heap.size + 1 + 1 + 1), ptr b7, x8, x9, x10, x11, x12, x13, x14, x15, x16, x17, x18, x19, x20, x21, x22, x23, x24, x25, x26, x27, x28, x29, x30, x31, x32, x33, x34, x35, x36, x37, x38, x39, x40, x41, x42, x43, x44, x45, x46, x47, x48, x49, x50, x51, x52, x53, x54, x55, x56, x57, x58, x59, x60, x61, x62, x63, x64, x65, x66, x67, x68, x69, x70, x71, x72, x73, x74, x75, x76, x77, x78, x79, x80, x81, x82, x83, x84, x85, x86, x87, x88, x89, x90, x91, x92, x93, x94, x95, x96, x97, x98, x99, x100, x101, x102, x103, x104, x105, x106, x107, x108, x109, x110, x111, x112, x113, x114, x115, x116, x117, x118, x119, x120, x121, x122, x123, x124, x125, x126, x127], defers := [] } Z := by
    intro x0 x1 x2 x8 x9 x10 x11 x12 x13 x14 x15 x16 x17 x18 x19 x20 x21 x22 x23 x24 x25 x26 x27 x28 x29 x30 x31 x32 x33 x34 x35 x36 x37 x38 x39 x40 x41 x42 x43 x44 x45 x46 x47 x48 x49 x50 x51 x52 x53 x54 x55 x56 x57 x58 x59 x60 x61 x62 x63 x64 x65 x66 x67 x68 x69 x70 x71 x72 x73 x74 x75 x76 x77 x78 x79 x80 x81 x82 x83 x84 x85 x86 x87 x88 x89 x90 x91 x92 x93 x94 x95 x96 x97 x98 x99 x100 x101 x102 x103 x104 x105 x106 x107 x108 x109 x110 x111 x112 x113 x114 x115 x116 x117 x118 x119 x120 x121 x122 x123 x124 x125 x126 x127 b7 s A nr c Z hb7 hbz hPA pZ
    refine hK1 _ _ ?_
    clear hK1
    have pwZ : Pu w Z := pW.trans pZ
    have hk3 := k3.pu pZ
    have hk4 := k4.pu pZ
    have hk5 := k5.pu pZ
    have hk6 := k6.pu pZ
    have hw7 : w.heap.size + 1 + 1 + 1 < b7 := by omega
    go_wp2_with fail
    go_loopw [8, 9] (fun iv kv wr => ∃ (i k n' : Nat) (A1 : Option Addr) (c1 : Nat) (A2 : Option Addr) (c2 : Nat), iv = .int .i64 (i : Int) ∧ kv = .int .i64 (k : Int) ∧ i ≤ n ∧ k ≤ m ∧ n' ≤ i + k ∧ PlusAt Z wr b7 n' A1 c1 A2 c2 ⟨s, A, nr, c⟩ B) (fun iv kv _ => (n - (intOf iv).toNat) + (m - (intOf kv).toNat))
    case atStart => exact ⟨0, 0, 0, none, 0, none, 0, rfl, rfl, Nat.zero_le _, Nat.zero_le _, Nat.le_refl _, hPA⟩
    case round =>
      obtain ⟨i, k, n', A1, c1, A2, c2, rfl, rfl, hi, hk, hn', hPl⟩ := hrel
      have hwz : w.heap.size + 4 < Z.heap.size := by omega
      have hPw : Pu w wr := pwZ.step hPl.fr (fun j hj => by
        rcases hj with hj | hj <;> omega)
      have l3 := hk3.fr hPl.fr (by show ¬ (w.heap.size = b7 ∨ Z.heap.size ≤ w.heap.size); omega)
      have l4 := hk4.fr hPl.fr (by show ¬ (w.heap.size + 1 = b7 ∨ Z.heap.size ≤ w.heap.size + 1); omega)
      have l5 := hk5.fr hPl.fr (by show ¬ (w.heap.size + 1 + 1 = b7 ∨ Z.heap.size ≤ w.heap.size + 1 + 1); omega)
      have l6 := hk6.fr hPl.fr (by show ¬ (w.heap.size + 1 + 1 + 1 = b7 ∨ Z.heap.size ≤ w.heap.size + 1 + 1 + 1); omega)
      have a0 : wr.cell? ⟨w.heap.size, 0, none⟩ = some (.slice An n cn) := l3.cell 0
      have a1 : wr.cell? ⟨w.heap.size, 1, none⟩ = some (.slice Af n cf) := l3.cell 1
      have e0 : wr.cell? ⟨w.heap.size + 1, 0, none⟩ = some (.slice Am m cm) := l4.cell 0
      have e1 : wr.cell? ⟨w.heap.size + 1, 1, none⟩ = some (.slice Ag m cg) := l4.cell 1
      have q0 : wr.cell? ⟨w.heap.size + 1 + 1, 0, none⟩ = some (.int .i64 qs) := l5.cell 0
      have q1 : wr.cell? ⟨w.heap.size + 1 + 1, 1, none⟩ = some (.slice qA qn qc) := l5.cell 1
      have v0 : wr.cell? ⟨b7, 0, none⟩ = some (.slice A1 n' c1) := hPl.blk.cell 0
      have v1 : wr.cell? ⟨b7, 1, none⟩ = some (.slice A2 n' c2) := hPl.blk.cell 1
      have v2 : wr.cell? ⟨b7, 2, none⟩ = some (.int .i64 s) := hPl.blk.cell 2
      have v3 : wr.cell? ⟨b7, 3, none⟩ = some (.slice A nr c) := hPl.blk.cell 3
      have Hw := Lib.hid (fun V (p : Pu wr V) (tk : Key) (q : RawZ) (hq : NZ_ V B q.val) => with_any Z.heap.size A1 n' c1 A2 c2 ⟨s, A, nr, c⟩ B tk q V (hPl.to.pu p) hq (Nat.le_trans hPl.fr.size p.size) (by omega))
      unfold tval RawZ.val at Hw
      dsimp only at Hw
      have hwi : IntKind.i64.wrap ((i : Int) + 1) = (i : Int) + 1 := IntWalk.i64_in _ (by omega)
      have hwk : IntKind.i64.wrap ((k : Int) + 1) = (k : Int) + 1 := IntWalk.i64_in _ (by omega)
      by_cases hin : i < n
      · obtain ⟨b1, o1, tk, rfl, hb1, hnt⟩ := kts_cell HT.out.1 hin
        obtain ⟨fq, b2, o2, hfq, rfl, hb2, hf0, hf1⟩ := fac_at HT.out.2.1 hin
        replace hnt := hPw.cellv hnt
        replace hf0 := hPw.cellv hf0
        replace hf1 := hPw.cellv hf1
        have hfzt : NZ_ wr Bt fq.val := (HT.out.2.2.1 fq (List.mem_of_getElem? hfq)).pu hPw
        have hfz := hfzt.le hBt
        have hin1 : ((i : Int) == (n : Int)) = false := by simp; omega
        obtain ⟨fs, fA, fn, fc⟩ := fq
        unfold RawZ.val at hfzt hfz
        dsimp only at hf0 hf1 hfzt hfz
        clear hfq
        by_cases hkm : k < m
        · obtain ⟨b3, o3, tu, rfl, hb3, hnu⟩ := kts_cell HU.out.1 hkm
          obtain ⟨uq, b4, o4, huq, rfl, hb4, hu0, hu1⟩ := fac_at HU.out.2.1 hkm
          replace hnu := hPw.cellv hnu
          replace hu0 := hPw.cellv hu0
          replace hu1 := hPw.cellv hu1
          have huz : NZ_ wr Bu uq.val := (HU.out.2.2.1 uq (List.mem_of_getElem? huq)).pu hPw
          have hkm1 : ((k : Int) == (m : Int)) = false := by simp; omega
          obtain ⟨us', uA', un', uc'⟩ := uq
          unfold RawZ.val at huz
          dsimp only at hu0 hu1 huz
          clear huq
          have l1 := less_key tk tu
          have l2 := less_key tu tk
          rcases kcase tk tu with h | h | h
          · rw [decide_eq_true h] at l1
            rw [decide_eq_false (fun h' => kirr tk (ktrans h h'))] at l2
            clear h
            go_wp2_with fail
            go_quiet (fail)
            obtain ⟨q1n, rfl⟩ : ∃ q, q = nq := ⟨_, rfl⟩
            go_wp2_with fail
            have hP : Pu wr (wr.drewN q1n).drew := Pu.drew (Pu.drewN (Pu.refl wr) q1n)
            go_still_tail 11, (by kernel_rfl)
            simp only [World.drew_eq]
            repeat still_step
            try refine wpStill_nil ?_
            go_wp2_with fail
            refine (Hw.out _ hP tk ⟨fs, fA, fn, fc⟩ (hfz.pu hP)).mono ?_
            rintro x u5 ⟨A3, n3, c3, A4, c4, rfl, hn3, hT5, hF5⟩
            have kb := (hPl.blk.pu hP).fr hF5 (by show ¬ Z.heap.size ≤ b7; omega)
            have y0 := kb.cell 0
            have y1 := kb.cell 1
            have y2 := kb.cell 2
            have y3 := kb.cell 3
            have g0 := kb.frozen 0
            have g1 := kb.frozen 1
            have g2 := kb.frozen 2
            have g3 := kb.frozen 3
            have HN := Lib.hid ((hPl.pu hP).next hbz hT5 hF5)
            clear hT5 hF5 kb hP
            go_wp2
            go_roundw
            case rel => exact ⟨i + 1, k, n3, A3, c3, A4, c4, by go_num, by go_num, by omega, by omega, by omega, HN.out⟩
            case measure => simp [intOf]; omega
          · subst h
            rw [decide_eq_false (kirr tk)] at l1 l2
            go_wp2_with fail
            go_quiet (fail)
            obtain ⟨q1n, rfl⟩ : ∃ q, q = nq := ⟨_, rfl⟩
            go_wp2_with fail
            go_quiet (fail)
            obtain ⟨q2n, rfl⟩ : ∃ q, q = nq := ⟨_, rfl⟩
            go_wp2_with fail
            have hP : Pu wr ((wr.drewN q1n).drewN q2n).drew := Pu.drew (Pu.drewN (Pu.drewN (Pu.refl wr) q1n) q2n)
            refine wp_region_X 19 (fun t => t.cell? ⟨w.heap.size, 0, none⟩ = some (.slice (some ⟨b1, o1, none⟩) n cn) ∧ t.cell? ⟨w.heap.size, 1, none⟩ = some (.slice (some ⟨b2, o2, none⟩) n cf) ∧ t.cell? ⟨b1, o1 + i, none⟩ = some (.string ⟨tk.toArray⟩) ∧ t.cell? ⟨b2, o2 + i * 2, none⟩ = some (.int .i64 fs) ∧ t.cell? ⟨b2, o2 + i * 2 + 1, none⟩ = some (.slice fA fn fc) ∧ t.cell? ⟨w.heap.size + 1, 1, none⟩ = some (.slice (some ⟨b4, o4, none⟩) m cg) ∧ t.cell? ⟨b4, o4 + k * 2, none⟩ = some (.int .i64 us') ∧ t.cell? ⟨b4, o4 + k * 2 + 1, none⟩ = some (.slice uA' un' uc') ∧ t.cell? ⟨w.heap.size + 1 + 1, 0, none⟩ = some (.int .i64 qs) ∧ t.cell? ⟨w.heap.size + 1 + 1, 1, none⟩ = some (.slice qA qn qc) ∧ t.cell? ⟨b7, 0, none⟩ = some (.slice A1 n' c1) ∧ t.cell? ⟨b7, 1, none⟩ = some (.slice A2 n' c2) ∧ t.cell? ⟨b7, 2, none⟩ = some (.int .i64 s) ∧ t.cell? ⟨b7, 3, none⟩ = some (.slice A nr c)) (by kernel_rfl) ⟨hP.cellv a0, hP.cellv a1, hP.cellv hnt, hP.cellv hf0, hP.cellv hf1, hP.cellv e1, hP.cellv hu0, hP.cellv hu1, hP.cellv q0, hP.cellv q1, hP.cellv v0, hP.cellv v1, hP.cellv v2, hP.cellv v3⟩ ?_
            generalize ((wr.drewN q1n).drewN q2n).drew = V at hP ⊢
            refine wpX_take 0 (v := ?_) (by kernel_rfl) rfl (by kernel_rfl) (fun _ _ _ h => h) (Or.inl ⟨by rfl, ?_⟩) ?_
            rotate_left
            · (intro t hSw; (try dsimp only at hSw); go_simp; try with_reducible rfl)
            simp only [Act.put, List.setIfInBounds_toArray, List.set_cons_zero, List.set_cons_succ]
            refine wpX_take 1 (v := ?_) (by kernel_rfl) rfl (by kernel_rfl) (fun _ _ _ h => h) (Or.inl ⟨by rfl, ?_⟩) ?_
            rotate_left
            · (intro t hSw; (try dsimp only at hSw); go_simp; try with_reducible rfl)
            simp only [Act.put, List.setIfInBounds_toArray, List.set_cons_zero, List.set_cons_succ]
            refine wpX_take 2 (v := ?_) (by kernel_rfl) rfl (by kernel_rfl) (fun _ _ _ h => h) (Or.inl ⟨by rfl, ?_⟩) ?_
            rotate_left
            · (intro t hSw; (try dsimp only at hSw); go_simp; try with_reducible rfl)
            simp only [Act.put, List.setIfInBounds_toArray, List.set_cons_zero, List.set_cons_succ]
            refine wpX_take 3 (v := ?_) (by kernel_rfl) rfl (by kernel_rfl) (fun _ _ _ h => h) (Or.inl ⟨by rfl, ?_⟩) ?_
            rotate_left
            · (intro t hSw; (try dsimp only at hSw); go_simp; try with_reducible rfl)
            simp only [Act.put, List.setIfInBounds_toArray, List.set_cons_zero, List.set_cons_succ]
            refine wpX_take 4 (v := ?_) (by kernel_rfl) rfl (by kernel_rfl) (fun _ _ _ h => h) (Or.inl ⟨by rfl, ?_⟩) ?_
            rotate_left
            · (intro t hSw; (try dsimp only at hSw); go_simp; try with_reducible rfl)
            simp only [Act.put, List.setIfInBounds_toArray, List.set_cons_zero, List.set_cons_succ]
            refine wpX_take 5 (v := ?_) (by kernel_rfl) rfl (by kernel_rfl) (fun _ _ _ h => h) (Or.inl ⟨by rfl, ?_⟩) ?_
            rotate_left
            · (intro t hSw; (try dsimp only at hSw); go_simp; try with_reducible rfl)
            simp only [Act.put, List.setIfInBounds_toArray, List.set_cons_zero, List.set_cons_succ]
            refine wpX_take 6 (v := ?_) (by kernel_rfl) rfl (by kernel_rfl) (fun _ _ _ h => h) (Or.inl ⟨by rfl, ?_⟩) ?_
            rotate_left
            · (intro t hSw; (try dsimp only at hSw); go_simp; try with_reducible rfl)
            simp only [Act.put, List.setIfInBounds_toArray, List.set_cons_zero, List.set_cons_succ]
            refine wpX_take 7 (v := ?_) (by kernel_rfl) rfl (by kernel_rfl) (fun _ _ _ h => h) (Or.inl ⟨by rfl, ?_⟩) ?_
            rotate_left
            · (intro t hSw; (try dsimp only at hSw); go_simp; try with_reducible rfl)
            simp only [Act.put, List.setIfInBounds_toArray, List.set_cons_zero, List.set_cons_succ]
            refine wpX_take 8 (v := ?_) (by kernel_rfl) rfl (by kernel_rfl) (fun _ _ _ h => h) (Or.inl ⟨by rfl, ?_⟩) ?_
            rotate_left
            · (intro t hSw; (try dsimp only at hSw); go_simp; try with_reducible rfl)
            simp only [Act.put, List.setIfInBounds_toArray, List.set_cons_zero, List.set_cons_succ]
            refine wpX_take 9 (v := ?_) (by kernel_rfl) rfl (by kernel_rfl) (fun _ _ _ h => h) (Or.inl ⟨by rfl, ?_⟩) ?_
            rotate_left
            · (intro t hSw; (try dsimp only at hSw); go_simp; try with_reducible rfl)
            simp only [Act.put, List.setIfInBounds_toArray, List.set_cons_zero, List.set_cons_succ]
            refine wpX_take 10 (v := ?_) (by kernel_rfl) rfl (by kernel_rfl) (fun _ _ _ h => h) (Or.inl ⟨by rfl, ?_⟩) ?_
            rotate_left
            · (intro t hSw; (try dsimp only at hSw); go_simp; try with_reducible rfl)
            simp only [Act.put, List.setIfInBounds_toArray, List.set_cons_zero, List.set_cons_succ]
            refine wpX_take 11 (v := ?_) (by kernel_rfl) rfl (by kernel_rfl) (fun _ _ _ h => h) (Or.inl ⟨by rfl, ?_⟩) ?_
            rotate_left
            · (intro t hSw; (try dsimp only at hSw); go_simp; try with_reducible rfl)
            simp only [Act.put, List.setIfInBounds_toArray, List.set_cons_zero, List.set_cons_succ]
            refine wpX_take 12 (v := ?_) (by kernel_rfl) rfl (by kernel_rfl) (fun _ _ _ h => h) (Or.inl ⟨by rfl, ?_⟩) ?_
            rotate_left
            · (intro t hSw; (try dsimp only at hSw); go_simp; try with_reducible rfl)
            simp only [Act.put, List.setIfInBounds_toArray, List.set_cons_zero, List.set_cons_succ]
            refine wpX_take 13 (v := ?_) (by kernel_rfl) rfl (by kernel_rfl) (fun _ _ _ h => h) (Or.inl ⟨by rfl, ?_⟩) ?_
            rotate_left
            · (intro t hSw; (try dsimp only at hSw); go_simp; try with_reducible rfl)
            simp only [Act.put, List.setIfInBounds_toArray, List.set_cons_zero, List.set_cons_succ]
            refine wpX_take 14 (v := ?_) (by kernel_rfl) rfl (by kernel_rfl) (fun _ _ _ h => h) (Or.inl ⟨by rfl, ?_⟩) ?_
            rotate_left
            · (intro t hSw; (try dsimp only at hSw); go_simp; try with_reducible rfl)
            simp only [Act.put, List.setIfInBounds_toArray, List.set_cons_zero, List.set_cons_succ]
            refine wpX_take 15 (v := ?_) (by kernel_rfl) rfl (by kernel_rfl) (fun _ _ _ h => h) (Or.inl ⟨by rfl, ?_⟩) ?_
            rotate_left
            · (intro t hSw; (try dsimp only at hSw); go_simp; try with_reducible rfl)
            simp only [Act.put, List.setIfInBounds_toArray, List.set_cons_zero, List.set_cons_succ]
            refine wpX_take 16 (v := ?_) (by kernel_rfl) rfl (by kernel_rfl) (fun _ _ _ h => h) (Or.inl ⟨by rfl, ?_⟩) ?_
            rotate_left
            · (intro t hSw; (try dsimp only at hSw); go_simp; try with_reducible rfl)
            simp only [Act.put, List.setIfInBounds_toArray, List.set_cons_zero, List.set_cons_succ]
            refine wpX_one 17 (by kernel_rfl) rfl (by decide) (fun K hK => ?_)
            go_simp
            go_at_call 79
            refine (Hmul.out _ _ (hPw.trans hP) (huz.pu hP)).mono ?_
            rintro x u2 ⟨y5, s5, A5, n5, c5, rfl, h5, hy5, p9⟩
            replace hP := hP.trans p9
            go_wp2_with fail
            refine hK.out _ _ ⟨hP.cellv a0, hP.cellv a1, hP.cellv hnt, hP.cellv hf0, hP.cellv hf1, hP.cellv e1, hP.cellv hu0, hP.cellv hu1, hP.cellv q0, hP.cellv q1, hP.cellv v0, hP.cellv v1, hP.cellv v2, hP.cellv v3⟩ ?_
            clear hK K
            try simp only [Act.put, List.setIfInBounds_toArray, List.set_cons_zero, List.set_cons_succ]
            refine wpX_one 18 (by kernel_rfl) rfl (by decide) (fun K hK => ?_)
            go_simp
            go_at_call 78
            refine (Hadd.out _ _ _ y5 (hfzt.pu hP) h5 hy5).mono ?_
            rintro x u3 ⟨s6, A6, n6, c6, rfl, h6, p10⟩
            replace hP := hP.trans p10
            go_wp2_with fail
            refine hK.out _ _ ⟨hP.cellv a0, hP.cellv a1, hP.cellv hnt, hP.cellv hf0, hP.cellv hf1, hP.cellv e1, hP.cellv hu0, hP.cellv hu1, hP.cellv q0, hP.cellv q1, hP.cellv v0, hP.cellv v1, hP.cellv v2, hP.cellv v3⟩ ?_
            clear hK K
            try simp only [Act.put, List.setIfInBounds_toArray, List.set_cons_zero, List.set_cons_succ]
            refine wpX_tail2 rfl (by kernel_rfl) ?_
            have rv0 := hP.cellv v0
            have rv1 := hP.cellv v1
            have rv2 := hP.cellv v2
            have rv3 := hP.cellv v3
            go_wp2_with fail
            refine (Hw.out _ hP tk ⟨s6, A6, n6, c6⟩ h6).mono ?_
            rintro x u5 ⟨A3, n3, c3, A4, c4, rfl, hn3, hT5, hF5⟩
            have kb := (hPl.blk.pu hP).fr hF5 (by show ¬ Z.heap.size ≤ b7; omega)
            have y0 := kb.cell 0
            have g0 := kb.frozen 0
            have y1 := kb.cell 1
            have g1 := kb.frozen 1
            have y2 := kb.cell 2
            have g2 := kb.frozen 2
            have y3 := kb.cell 3
            have g3 := kb.frozen 3
            have HN := Lib.hid ((hPl.pu hP).next hbz hT5 hF5)
            clear hT5 hF5 kb hP
            go_wp2
            go_roundw
            case rel => exact ⟨i + 1, k + 1, n3, A3, c3, A4, c4, by go_num, by go_num, by omega, by omega, by omega, HN.out⟩
            case measure => simp [intOf]; omega
          · rw [decide_eq_true h] at l2
            rw [decide_eq_false (fun h' => kirr tk (ktrans h' h))] at l1
            clear h
            go_wp2_with fail
            go_quiet (fail)
            obtain ⟨q1n, rfl⟩ : ∃ q, q = nq := ⟨_, rfl⟩
            go_wp2_with fail
            go_quiet (fail)
            obtain ⟨q2n, rfl⟩ : ∃ q, q = nq := ⟨_, rfl⟩
            go_wp2_with fail
            have hP : Pu wr ((wr.drewN q1n).drewN q2n).drew := Pu.drew (Pu.drewN (Pu.drewN (Pu.refl wr) q1n) q2n)
            refine wp_region_X 13 (fun t => t.cell? ⟨w.heap.size + 1, 0, none⟩ = some (.slice (some ⟨b3, o3, none⟩) m cm) ∧ t.cell? ⟨b3, o3 + k, none⟩ = some (.string ⟨tu.toArray⟩) ∧ t.cell? ⟨w.heap.size + 1, 1, none⟩ = some (.slice (some ⟨b4, o4, none⟩) m cg) ∧ t.cell? ⟨b4, o4 + k * 2, none⟩ = some (.int .i64 us') ∧ t.cell? ⟨b4, o4 + k * 2 + 1, none⟩ = some (.slice uA' un' uc') ∧ t.cell? ⟨w.heap.size + 1 + 1, 0, none⟩ = some (.int .i64 qs) ∧ t.cell? ⟨w.heap.size + 1 + 1, 1, none⟩ = some (.slice qA qn qc) ∧ t.cell? ⟨b7, 0, none⟩ = some (.slice A1 n' c1) ∧ t.cell? ⟨b7, 1, none⟩ = some (.slice A2 n' c2) ∧ t.cell? ⟨b7, 2, none⟩ = some (.int .i64 s) ∧ t.cell? ⟨b7, 3, none⟩ = some (.slice A nr c)) (by kernel_rfl) ⟨hP.cellv e0, hP.cellv hnu, hP.cellv e1, hP.cellv hu0, hP.cellv hu1, hP.cellv q0, hP.cellv q1, hP.cellv v0, hP.cellv v1, hP.cellv v2, hP.cellv v3⟩ ?_
            generalize ((wr.drewN q1n).drewN q2n).drew = V at hP ⊢
            refine wpX_take 0 (v := ?_) (by kernel_rfl) rfl (by kernel_rfl) (fun _ _ _ h => h) (Or.inl ⟨by rfl, ?_⟩) ?_
            rotate_left
            · (intro t hSw; (try dsimp only at hSw); go_simp; try with_reducible rfl)
            simp only [Act.put, List.setIfInBounds_toArray, List.set_cons_zero, List.set_cons_succ]
            refine wpX_take 1 (v := ?_) (by kernel_rfl) rfl (by kernel_rfl) (fun _ _ _ h => h) (Or.inl ⟨by rfl, ?_⟩) ?_
            rotate_left
            · (intro t hSw; (try dsimp only at hSw); go_simp; try with_reducible rfl)
            simp only [Act.put, List.setIfInBounds_toArray, List.set_cons_zero, List.set_cons_succ]
            refine wpX_take 2 (v := ?_) (by kernel_rfl) rfl (by kernel_rfl) (fun _ _ _ h => h) (Or.inl ⟨by rfl, ?_⟩) ?_
            rotate_left
            · (intro t hSw; (try dsimp only at hSw); go_simp; try with_reducible rfl)
            simp only [Act.put, List.setIfInBounds_toArray, List.set_cons_zero, List.set_cons_succ]
            refine wpX_take 3 (v := ?_) (by kernel_rfl) rfl (by kernel_rfl) (fun _ _ _ h => h) (Or.inl ⟨by rfl, ?_⟩) ?_
            rotate_left
            · (intro t hSw; (try dsimp only at hSw); go_simp; try with_reducible rfl)
            simp only [Act.put, List.setIfInBounds_toArray, List.set_cons_zero, List.set_cons_succ]
            refine wpX_take 4 (v := ?_) (by kernel_rfl) rfl (by kernel_rfl) (fun _ _ _ h => h) (Or.inl ⟨by rfl, ?_⟩) ?_
            rotate_left
            · (intro t hSw; (try dsimp only at hSw); go_simp; try with_reducible rfl)
            simp only [Act.put, List.setIfInBounds_toArray, List.set_cons_zero, List.set_cons_succ]
            refine wpX_take 5 (v := ?_) (by kernel_rfl) rfl (by kernel_rfl) (fun _ _ _ h => h) (Or.inl ⟨by rfl, ?_⟩) ?_
            rotate_left
            · (intro t hSw; (try dsimp only at hSw); go_simp; try with_reducible rfl)
            simp only [Act.put, List.setIfInBounds_toArray, List.set_cons_zero, List.set_cons_succ]
            refine wpX_take 6 (v := ?_) (by kernel_rfl) rfl (by kernel_rfl) (fun _ _ _ h => h) (Or.inl ⟨by rfl, ?_⟩) ?_
            rotate_left
            · (intro t hSw; (try dsimp only at hSw); go_simp; try with_reducible rfl)
            simp only [Act.put, List.setIfInBounds_toArray, List.set_cons_zero, List.set_cons_succ]
            refine wpX_take 7 (v := ?_) (by kernel_rfl) rfl (by kernel_rfl) (fun _ _ _ h => h) (Or.inl ⟨by rfl, ?_⟩) ?_
            rotate_left
            · (intro t hSw; (try dsimp only at hSw); go_simp; try with_reducible rfl)
            simp only [Act.put, List.setIfInBounds_toArray, List.set_cons_zero, List.set_cons_succ]
            refine wpX_take 8 (v := ?_) (by kernel_rfl) rfl (by kernel_rfl) (fun _ _ _ h => h) (Or.inl ⟨by rfl, ?_⟩) ?_
            rotate_left
            · (intro t hSw; (try dsimp only at hSw); go_simp; try with_reducible rfl)
            simp only [Act.put, List.setIfInBounds_toArray, List.set_cons_zero, List.set_cons_succ]
            refine wpX_take 9 (v := ?_) (by kernel_rfl) rfl (by kernel_rfl) (fun _ _ _ h => h) (Or.inl ⟨by rfl, ?_⟩) ?_
            rotate_left
            · (intro t hSw; (try dsimp only at hSw); go_simp; try with_reducible rfl)
            simp only [Act.put, List.setIfInBounds_toArray, List.set_cons_zero, List.set_cons_succ]
            refine wpX_take 10 (v := ?_) (by kernel_rfl) rfl (by kernel_rfl) (fun _ _ _ h => h) (Or.inl ⟨by rfl, ?_⟩) ?_
            rotate_left
            · (intro t hSw; (try dsimp only at hSw); go_simp; try with_reducible rfl)
            simp only [Act.put, List.setIfInBounds_toArray, List.set_cons_zero, List.set_cons_succ]
            refine wpX_take 11 (v := ?_) (by kernel_rfl) rfl (by kernel_rfl) (fun _ _ _ h => h) (Or.inl ⟨by rfl, ?_⟩) ?_
            rotate_left
            · (intro t hSw; (try dsimp only at hSw); go_simp; try with_reducible rfl)
            simp only [Act.put, List.setIfInBounds_toArray, List.set_cons_zero, List.set_cons_succ]
            refine wpX_one 12 (by kernel_rfl) rfl (by decide) (fun K hK => ?_)
            go_simp
            go_at_call 79
            refine (Hmul.out _ _ (hPw.trans hP) (huz.pu hP)).mono ?_
            rintro x u2 ⟨y5, s5, A5, n5, c5, rfl, h5, hy5, p9⟩
            replace hP := hP.trans p9
            go_wp2_with fail
            refine hK.out _ _ ⟨hP.cellv e0, hP.cellv hnu, hP.cellv e1, hP.cellv hu0, hP.cellv hu1, hP.cellv q0, hP.cellv q1, hP.cellv v0, hP.cellv v1, hP.cellv v2, hP.cellv v3⟩ ?_
            clear hK K
            try simp only [Act.put, List.setIfInBounds_toArray, List.set_cons_zero, List.set_cons_succ]
            refine wpX_tail2 rfl (by kernel_rfl) ?_
            have rv0 := hP.cellv v0
            have rv1 := hP.cellv v1
            have rv2 := hP.cellv v2
            have rv3 := hP.cellv v3
            go_wp2_with fail
            refine (Hw.out _ hP tu ⟨s5, A5, n5, c5⟩ ⟨y5, h5, by omega⟩).mono ?_
            rintro x u5 ⟨A3, n3, c3, A4, c4, rfl, hn3, hT5, hF5⟩
            have kb := (hPl.blk.pu hP).fr hF5 (by show ¬ Z.heap.size ≤ b7; omega)
            have y0 := kb.cell 0
            have g0 := kb.frozen 0
            have y1 := kb.cell 1
            have g1 := kb.frozen 1
            have y2 := kb.cell 2
            have g2 := kb.frozen 2
            have y3 := kb.cell 3
            have g3 := kb.frozen 3
            have HN := Lib.hid ((hPl.pu hP).next hbz hT5 hF5)
            clear hT5 hF5 kb hP
            go_wp2
            go_roundw
            case rel => exact ⟨i, k + 1, n3, A3, c3, A4, c4, by go_num, by go_num, by omega, by omega, by omega, HN.out⟩
            case measure => simp [intOf]; omega
        · obtain rfl : k = m := by omega
          go_wp2_with fail
          go_quiet (fail)
          obtain ⟨q1n, rfl⟩ : ∃ q, q = nq := ⟨_, rfl⟩
          go_wp2_with fail
          have hP : Pu wr (wr.drewN q1n).drew := Pu.drew (Pu.drewN (Pu.refl wr) q1n)
          go_still_tail 11, (by kernel_rfl)
          simp only [World.drew_eq]
          repeat still_step
          try refine wpStill_nil ?_
          go_wp2_with fail
          refine (Hw.out _ hP tk ⟨fs, fA, fn, fc⟩ (hfz.pu hP)).mono ?_
          rintro x u5 ⟨A3, n3, c3, A4, c4, rfl, hn3, hT5, hF5⟩
          have kb := (hPl.blk.pu hP).fr hF5 (by show ¬ Z.heap.size ≤ b7; omega)
          have y0 := kb.cell 0
          have y1 := kb.cell 1
          have y2 := kb.cell 2
          have y3 := kb.cell 3
          have g0 := kb.frozen 0
          have g1 := kb.frozen 1
          have g2 := kb.frozen 2
          have g3 := kb.frozen 3
          have HN := Lib.hid ((hPl.pu hP).next hbz hT5 hF5)
          clear hT5 hF5 kb hP
          go_wp2
          go_roundw
          case rel => exact ⟨i + 1, k, n3, A3, c3, A4, c4, by go_num, by go_num, by omega, by omega, by omega, HN.out⟩
          case measure => simp [intOf]; omega
      · obtain rfl : i = n := by omega
        by_cases hkm : k < m
        · obtain ⟨b3, o3, tu, rfl, hb3, hnu⟩ := kts_cell HU.out.1 hkm
          obtain ⟨uq, b4, o4, huq, rfl, hb4, hu0, hu1⟩ := fac_at HU.out.2.1 hkm
          replace hnu := hPw.cellv hnu
          replace hu0 := hPw.cellv hu0
          replace hu1 := hPw.cellv hu1
          have huz : NZ_ wr Bu uq.val := (HU.out.2.2.1 uq (List.mem_of_getElem? huq)).pu hPw
          have hkm1 : ((k : Int) == (m : Int)) = false := by simp; omega
          obtain ⟨us', uA', un', uc'⟩ := uq
          unfold RawZ.val at huz
          dsimp only at hu0 hu1 huz
          clear huq
          go_wp2_with fail
          go_quiet (fail)
          obtain ⟨q1n, rfl⟩ : ∃ q, q = nq := ⟨_, rfl⟩
          go_wp2_with fail
          go_quiet (fail)
          obtain ⟨q2n, rfl⟩ : ∃ q, q = nq := ⟨_, rfl⟩
          go_wp2_with fail
          have hP : Pu wr ((wr.drewN q1n).drewN q2n).drew := Pu.drew (Pu.drewN (Pu.drewN (Pu.refl wr) q1n) q2n)
          refine wp_region_X 13 (fun t => t.cell? ⟨w.heap.size + 1, 0, none⟩ = some (.slice (some ⟨b3, o3, none⟩) m cm) ∧ t.cell? ⟨b3, o3 + k, none⟩ = some (.string ⟨tu.toArray⟩) ∧ t.cell? ⟨w.heap.size + 1, 1, none⟩ = some (.slice (some ⟨b4, o4, none⟩) m cg) ∧ t.cell? ⟨b4, o4 + k * 2, none⟩ = some (.int .i64 us') ∧ t.cell? ⟨b4, o4 + k * 2 + 1, none⟩ = some (.slice uA' un' uc') ∧ t.cell? ⟨w.heap.size + 1 + 1, 0, none⟩ = some (.int .i64 qs) ∧ t.cell? ⟨w.heap.size + 1 + 1, 1, none⟩ = some (.slice qA qn qc) ∧ t.cell? ⟨b7, 0, none⟩ = some (.slice A1 n' c1) ∧ t.cell? ⟨b7, 1, none⟩ = some (.slice A2 n' c2) ∧ t.cell? ⟨b7, 2, none⟩ = some (.int .i64 s) ∧ t.cell? ⟨b7, 3, none⟩ = some (.slice A nr c)) (by kernel_rfl) ⟨hP.cellv e0, hP.cellv hnu, hP.cellv e1, hP.cellv hu0, hP.cellv hu1, hP.cellv q0, hP.cellv q1, hP.cellv v0, hP.cellv v1, hP.cellv v2, hP.cellv v3⟩ ?_
          generalize ((wr.drewN q1n).drewN q2n).drew = V at hP ⊢
          refine wpX_take 0 (v := ?_) (by kernel_rfl) rfl (by kernel_rfl) (fun _ _ _ h => h) (Or.inl ⟨by rfl, ?_⟩) ?_
          rotate_left
          · (intro t hSw; (try dsimp only at hSw); go_simp; try with_reducible rfl)
          simp only [Act.put, List.setIfInBounds_toArray, List.set_cons_zero, List.set_cons_succ]
          refine wpX_take 1 (v := ?_) (by kernel_rfl) rfl (by kernel_rfl) (fun _ _ _ h => h) (Or.inl ⟨by rfl, ?_⟩) ?_
          rotate_left
          · (intro t hSw; (try dsimp only at hSw); go_simp; try with_reducible rfl)
          simp only [Act.put, List.setIfInBounds_toArray, List.set_cons_zero, List.set_cons_succ]
          refine wpX_take 2 (v := ?_) (by kernel_rfl) rfl (by kernel_rfl) (fun _ _ _ h => h) (Or.inl ⟨by rfl, ?_⟩) ?_
          rotate_left
          · (intro t hSw; (try dsimp only at hSw); go_simp; try with_reducible rfl)
          simp only [Act.put, List.setIfInBounds_toArray, List.set_cons_zero, List.set_cons_succ]
          refine wpX_take 3 (v := ?_) (by kernel_rfl) rfl (by kernel_rfl) (fun _ _ _ h => h) (Or.inl ⟨by rfl, ?_⟩) ?_
          rotate_left
          · (intro t hSw; (try dsimp only at hSw); go_simp; try with_reducible rfl)
          simp only [Act.put, List.setIfInBounds_toArray, List.set_cons_zero, List.set_cons_succ]
          refine wpX_take 4 (v := ?_) (by kernel_rfl) rfl (by kernel_rfl) (fun _ _ _ h => h) (Or.inl ⟨by rfl, ?_⟩) ?_
          rotate_left
          · (intro t hSw; (try dsimp only at hSw); go_simp; try with_reducible rfl)
          simp only [Act.put, List.setIfInBounds_toArray, List.set_cons_zero, List.set_cons_succ]
          refine wpX_take 5 (v := ?_) (by kernel_rfl) rfl (by kernel_rfl) (fun _ _ _ h => h) (Or.inl ⟨by rfl, ?_⟩) ?_
          rotate_left
          · (intro t hSw; (try dsimp only at hSw); go_simp; try with_reducible rfl)
          simp only [Act.put, List.setIfInBounds_toArray, List.set_cons_zero, List.set_cons_succ]
          refine wpX_take 6 (v := ?_) (by kernel_rfl) rfl (by kernel_rfl) (fun _ _ _ h => h) (Or.inl ⟨by rfl, ?_⟩) ?_
          rotate_left
          · (intro t hSw; (try dsimp only at hSw); go_simp; try with_reducible rfl)
          simp only [Act.put, List.setIfInBounds_toArray, List.set_cons_zero, List.set_cons_succ]
          refine wpX_take 7 (v := ?_) (by kernel_rfl) rfl (by kernel_rfl) (fun _ _ _ h => h) (Or.inl ⟨by rfl, ?_⟩) ?_
          rotate_left
          · (intro t hSw; (try dsimp only at hSw); go_simp; try with_reducible rfl)
          simp only [Act.put, List.setIfInBounds_toArray, List.set_cons_zero, List.set_cons_succ]
          refine wpX_take 8 (v := ?_) (by kernel_rfl) rfl (by kernel_rfl) (fun _ _ _ h => h) (Or.inl ⟨by rfl, ?_⟩) ?_
          rotate_left
          · (intro t hSw; (try dsimp only at hSw); go_simp; try with_reducible rfl)
          simp only [Act.put, List.setIfInBounds_toArray, List.set_cons_zero, List.set_cons_succ]
          refine wpX_take 9 (v := ?_) (by kernel_rfl) rfl (by kernel_rfl) (fun _ _ _ h => h) (Or.inl ⟨by rfl, ?_⟩) ?_
          rotate_left
          · (intro t hSw; (try dsimp only at hSw); go_simp; try with_reducible rfl)
          simp only [Act.put, List.setIfInBounds_toArray, List.set_cons_zero, List.set_cons_succ]
          refine wpX_take 10 (v := ?_) (by kernel_rfl) rfl (by kernel_rfl) (fun _ _ _ h => h) (Or.inl ⟨by rfl, ?_⟩) ?_
          rotate_left
          · (intro t hSw; (try dsimp only at hSw); go_simp; try with_reducible rfl)
          simp only [Act.put, List.setIfInBounds_toArray, List.set_cons_zero, List.set_cons_succ]
          refine wpX_take 11 (v := ?_) (by kernel_rfl) rfl (by kernel_rfl) (fun _ _ _ h => h) (Or.inl ⟨by rfl, ?_⟩) ?_
          rotate_left
          · (intro t hSw; (try dsimp only at hSw); go_simp; try with_reducible rfl)
          simp only [Act.put, List.setIfInBounds_toArray, List.set_cons_zero, List.set_cons_succ]
          refine wpX_one 12 (by kernel_rfl) rfl (by decide) (fun K hK => ?_)
          go_simp
          go_at_call 79
          refine (Hmul.out _ _ (hPw.trans hP) (huz.pu hP)).mono ?_
          rintro x u2 ⟨y5, s5, A5, n5, c5, rfl, h5, hy5, p9⟩
          replace hP := hP.trans p9
          go_wp2_with fail
          refine hK.out _ _ ⟨hP.cellv e0, hP.cellv hnu, hP.cellv e1, hP.cellv hu0, hP.cellv hu1, hP.cellv q0, hP.cellv q1, hP.cellv v0, hP.cellv v1, hP.cellv v2, hP.cellv v3⟩ ?_
          clear hK K
          try simp only [Act.put, List.setIfInBounds_toArray, List.set_cons_zero, List.set_cons_succ]
          refine wpX_tail2 rfl (by kernel_rfl) ?_
          have rv0 := hP.cellv v0
          have rv1 := hP.cellv v1
          have rv2 := hP.cellv v2
          have rv3 := hP.cellv v3
          go_wp2_with fail
          refine (Hw.out _ hP tu ⟨s5, A5, n5, c5⟩ ⟨y5, h5, by omega⟩).mono ?_
          rintro x u5 ⟨A3, n3, c3, A4, c4, rfl, hn3, hT5, hF5⟩
          have kb := (hPl.blk.pu hP).fr hF5 (by show ¬ Z.heap.size ≤ b7; omega)
          have y0 := kb.cell 0
          have g0 := kb.frozen 0
          have y1 := kb.cell 1
          have g1 := kb.frozen 1
          have y2 := kb.cell 2
          have g2 := kb.frozen 2
          have y3 := kb.cell 3
          have g3 := kb.frozen 3
          have HN := Lib.hid ((hPl.pu hP).next hbz hT5 hF5)
          clear hT5 hF5 kb hP
          go_wp2
          go_roundw
          case rel => exact ⟨i, k + 1, n3, A3, c3, A4, c4, by go_num, by go_num, by omega, by omega, by omega, HN.out⟩
          case measure => simp [intOf]; omega
        · obtain rfl : k = m := by omega
          obtain ⟨kR, e⟩ := over_T l6 (.slice A1 n' c1) (.slice A2 n' c2) (.int .i64 s) (.slice A nr c)
          have w0 := l6.cell 0
          have w1 := l6.cell 1
          have w2 := l6.cell 2
          have w3 := l6.cell 3
          have fw0 := l6.frozen 0
          have fw1 := l6.frozen 1
          have fw2 := l6.frozen 2
          have fw3 := l6.frozen 3
          have hTf := (hPl.to.frT e (fun g hg => by
            subst hg
            exact ⟨_, _, _, l6, by decide⟩)).tr
          have hPf := hPw.step e (fun j hj => by
            have e' : j = w.heap.size + 1 + 1 + 1 := hj
            omega)
          have r0 := kR.cell 0
          have r1 := kR.cell 1
          have r2 := kR.cell 2
          have r3 := kR.cell 3
          have HF := Lib.hid (And.intro hTf hPf)
          clear hTf hPf e kR hPl l3 l4 l5 l6 hPw
          go_wp2
          exact bodyPost_ret (v := .agg #[.slice A1 n' c1, .slice A2 n' c2, .int .i64 s, .slice A nr c]) (by simp [results, Tryz.results45, go_sem, r0, r1, r2, r3]) rfl ⟨A1, n', c1, A2, c2, ⟨s, A, nr, c⟩, rfl, hn', HF.out.1, HF.out.2⟩
  have d0 : W.cell? ⟨w.heap.size, 2, none⟩ = some (.int .i64 rs) := k3.cell 2
  have d1 : W.cell? ⟨w.heap.size, 3, none⟩ = some (.slice rA rn rc) := k3.cell 3
  have d2 : W.cell? ⟨w.heap.size + 1, 2, none⟩ = some (.int .i64 us) := k4.cell 2
  have d3 : W.cell? ⟨w.heap.size + 1, 3, none⟩ = some (.slice uA un uc) := k4.cell 3
  have d4 : W.cell? ⟨w.heap.size + 1 + 1, 0, none⟩ = some (.int .i64 qs) := k5.cell 0
  have d5 : W.cell? ⟨w.heap.size + 1 + 1, 1, none⟩ = some (.slice qA qn qc) := k5.cell 1
  have hP : Pu W W.drew := (Pu.refl W).drew
  have hur := HU.out.2.2.2
  have htr := HT.out.2.2.2
  unfold RawZ.val at hur htr
  dsimp only at hur htr
  clear hK1
  go_region_held3 (fun t => t.cell? ⟨w.heap.size, 2, none⟩ = some (.int .i64 rs) ∧ t.cell? ⟨w.heap.size, 3, none⟩ = some (.slice rA rn rc) ∧ t.cell? ⟨w.heap.size + 1, 2, none⟩ = some (.int .i64 us) ∧ t.cell? ⟨w.heap.size + 1, 3, none⟩ = some (.slice uA un uc) ∧ t.cell? ⟨w.heap.size + 1 + 1, 0, none⟩ = some (.int .i64 qs) ∧ t.cell? ⟨w.heap.size + 1 + 1, 1, none⟩ = some (.slice qA qn qc))
    (first | exact Keep6 d0 d1 d2 d3 d4 d5 (by repeat' (first | with_reducible exact hP | with_reducible exact Pu.refl _ | with_reducible refine Pu.drew ?_ | with_reducible refine Pu.alloc ?_ _ | with_reducible refine Pu.setCell ?_ ?_ _ | (dsimp only; omega))) | go_keep)
    (first
      | (go_at_call 79; refine (Hmul.out _ _ (pW.trans (by with_reducible first | exact hP | exact hP.alloc _ | exact Pu.drew (Pu.alloc (Pu.refl _) _))) (hur.pu (pW.trans (by with_reducible first | exact hP | exact hP.alloc _ | exact Pu.drew (Pu.alloc (Pu.refl _) _))))).mono ?_; rintro x u2 ⟨y5, s5, A5, n5, c5, rfl, h5, hy5, p9⟩; with_reducible (first | (have bA := (Blk.new W 56 #[.slice none 0 0, .slice none 0 0, .int .i64 0, .slice none 0 0]).drew.pu p9) | skip); replace hP := Pu.trans (a := W) (by with_reducible first | exact hP | exact hP.alloc _ | exact Pu.drew (Pu.alloc (Pu.refl _) _)) p9; have z2 := hP.size; (try (have lA := bA.lt; have ka0 := bA.cell 0; have ka1 := bA.cell 1; have ka2 := bA.cell 2; have ka3 := bA.cell 3; have kf0 := bA.frozen 0; have kf1 := bA.frozen 1; have kf2 := bA.frozen 2; have kf3 := bA.frozen 3)))
      | (go_at_call 78; refine (Hadd.out _ _ _ y5 (htr.pu (pW.trans (by with_reducible first | exact hP | exact hP.alloc _))) (h5.pu (by with_reducible first | exact Pu.refl _ | exact (Pu.refl _).alloc _)) hy5).mono ?_; rintro x u3 ⟨s6, A6, n6, c6, rfl, h6, p10⟩; with_reducible (first | (replace bA := bA.pu p10) | (have bA := (Blk.new u2 56 #[.slice none 0 0, .slice none 0 0, .int .i64 0, .slice none 0 0]).pu p10) | skip); replace hP := Pu.trans (a := W) (by with_reducible first | exact hP | exact hP.alloc _) p10; have z3 := hP.size; (try clear lA); (try clear ka0 ka1 ka2 ka3 kf0 kf1 kf2 kf3); (try (have lA := bA.lt; have ka0 := bA.cell 0; have ka1 := bA.cell 1; have ka2 := bA.cell 2; have ka3 := bA.cell 3; have kf0 := bA.frozen 0; have kf1 := bA.frozen 1; have kf2 := bA.frozen 2; have kf3 := bA.frozen 3))))
  all_goals
    have hzw := Hsz.out
    first
      | exact key _ _ _ _ _ _ _ _ _ _ _ _ _ _ _ _ _ _ _ _ _ _ _ _ _ _ _ _ _ _ _ _ _ _ _ _ _ _ _ _ _ _ _ _ _ _ _ _ _ _ _ _ _ _ _ _ _ _ _ _ _ _ _ _ _ _ _ _ _ _ _ _ _ _ _ _ _ _ _ _ _ _ _ _ _ _ _ _ _ _ _ _ _ _ _ _ _ _ _ _ _ _ _ _ _ _ _ _ _ _ _ _ _ _ _ _ _ _ _ _ _ _ _ u3.heap.size s6 A6 n6 c6 _ (by omega) (by simp) (plus_new h6) (hP.alloc _)
      | exact key _ _ _ _ _ _ _ _ _ _ _ _ _ _ _ _ _ _ _ _ _ _ _ _ _ _ _ _ _ _ _ _ _ _ _ _ _ _ _ _ _ _ _ _ _ _ _ _ _ _ _ _ _ _ _ _ _ _ _ _ _ _ _ _ _ _ _ _ _ _ _ _ _ _ _ _ _ _ _ _ _ _ _ _ _ _ _ _ _ _ _ _ _ _ _ _ _ _ _ _ _ _ _ _ _ _ _ _ _ _ _ _ _ _ _ _ _ _ _ _ _ _ _ _ s6 A6 n6 c6 _ (by omega) (by rw [size4]; exact bA.lt) (plus_old bA h6) (hP.step (over_T bA _ _ _ _).2 (fun i e => by
          have e' : i = _ := e
          omega))
end
end Go.Proofs.YtckfnbckoclhpaaGreatDoor
