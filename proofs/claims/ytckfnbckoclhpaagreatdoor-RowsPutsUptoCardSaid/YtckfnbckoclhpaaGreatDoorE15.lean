/- Rows: turned. Rows: bare. Rows: first. Rows: what is known of all rows: in memory and as lists. Rows: what the program makes of rows, as lists: learning, a pair's rows, the tidy system. Plain, no program in sight. Rows: learning hangs neither on the order of the rows nor on rows that stand there twice. Plain. Rows: a term's text tells the term, where no name holds a '+'. Plain. Rows: the tidy system, sorted; a term in a name's place. Plain. Rows in memory: slices of rows, and what they say. Rows of the call's own: what they say stays where tables and rows alone turn. Slices of rows in an own row. -/
import Derived.Test.YtckfnbckoclhpaaGreatDoorE14
import Derived.Deep.RegionHeld3
import Derived.Test.YtckfnbckoclhpaaGreatDoorE12
import Derived.Test.YtckfnbckoclhpaaGreatDoorE10
import Derived.Test.YtckfnbckoclhpaaGreatDoorC01
namespace Go.Proofs.YtckfnbckoclhpaaGreatDoor
section
set_option linter.unusedVariables false
open Go.RowKit
set_option maxHeartbeats 1600000 in
set_option maxRecDepth 100000 in
theorem turned_any (v1 : Value) (r1 : Int) (fs : List (Key × Int)) (M : Nat) (w : World) (h1 : TM w v1 r1 fs)
    (hM : Upto M fs) (hL : fs.length < 30000) (hbig : 1100000 * M < 4294967296 ^ 30000) (hr1 : r1.natAbs < 4294967296 ^ 30000) :
    Calls Tryz.prog 73 #[v1] w fun e w' => ∃ v, e = .returned v ∧ TMO w' w.heap.size v (r1 * (-1)) (addM [] fs (-1)) ∧ Pu w w' := by
  obtain ⟨g1, A1, n1, c1, m1, rfl⟩ := h1.shape
  have hadd : ∀ W v3, Pu w W → ZR W v3 (-1) → Calls Tryz.prog 29 #[.agg #[.bool g1, .slice A1 n1 c1, .pointer m1], v3] W fun e w' => ∃ v, e = .returned v ∧ TMO w' W.heap.size v (r1 * (-1)) (addM [] fs (-1)) ∧ Pu W w' := fun W v3 p hz =>
    ttimes_any _ _ r1 (-1) fs M W (h1.pu p) hz (fun g hg => by
      have := hM g hg
      omega) hL hbig (up_one (by decide)) (fun g hg => Nat.lt_of_le_of_lt (Nat.le_trans (hM g hg) (by omega)) hbig) hr1
  have Hadd := Lib.hid hadd
  obtain ⟨W, hWe⟩ : ∃ W, W = (w.alloc (.cells #[.bool g1, .slice A1 n1 c1, .pointer m1] 33)).alloc (.cells #[.bool false, .slice none 0 0, .pointer none] 33) := ⟨_, rfl⟩
  have pW : Pu w W := by rw [hWe]; exact ((Pu.refl w).alloc _).alloc _
  have k1 : Blk W w.heap.size 33 #[.bool g1, .slice A1 n1 c1, .pointer m1] := by rw [hWe]; exact (Blk.new w _ _).alloc _
  have k4 : Blk W (w.heap.size + 1) 33 #[.bool false, .slice none 0 0, .pointer none] := by rw [hWe]; exact Blk.at_new _ _ _ (by simp)
  have hsz : W.heap.size = w.heap.size + 2 := by rw [hWe]; simp
  have d0 : W.cell? ⟨w.heap.size, 0, none⟩ = some (.bool g1) := k1.cell 0
  have d1 : W.cell? ⟨w.heap.size, 1, none⟩ = some (.slice A1 n1 c1) := k1.cell 1
  have d2 : W.cell? ⟨w.heap.size, 2, none⟩ = some (.pointer m1) := k1.cell 2
  have hP : Pu W W.drew := (Pu.refl W).drew
  have HWe := Lib.hid hWe
  clear hWe hadd h1 hM hbig hr1
  go_enter Tryz.func73, Tryz.ntmps73
  go_wp2_with fail
  rw [← HWe.out]
  go_region_with (first
    | (go_at_call 30; refine (from_any (-1) _ (by decide) (by decide)).mono ?_; rintro e u2 ⟨v5, rfl, h5, p9⟩; replace hP := hP.trans p9; have z12 := hP.size; obtain ⟨g5, A5, m5, c5, rfl⟩ := h5.shape2; replace d0 := hP.cellv d0; replace d1 := hP.cellv d1; replace d2 := hP.cellv d2)
    | (go_at_call 29; refine (Hadd.out _ _ (pW.trans hP) h5).mono ?_; rintro e u3 ⟨v6, rfl, h6, p10⟩; replace hP := hP.trans p10; obtain ⟨g6, A6, m6, c6, q6, rfl⟩ := h6.tm.shape; have l4' := k4.pu hP; have ka0 := l4'.cell 0; have ka1 := l4'.cell 1; have ka2 := l4'.cell 2; have kf0 := l4'.frozen 0; have kf1 := l4'.frozen 1; have kf2 := l4'.frozen 2))
  all_goals
    obtain ⟨kB, fB, tB⟩ := over_t l4' g6 A6 m6 c6 q6
    have h7 := (h6.frT fB (fun i e => by
      have e' : i = w.heap.size + 1 := e
      omega) tB).base_ (base' := w.heap.size) (by omega)
    have p7 := (pW.trans hP).step fB (fun i e => by
      have e' : i = w.heap.size + 1 := e
      omega)
    have r0' := kB.cell 0
    have r1' := kB.cell 1
    have r2' := kB.cell 2
    have H7 := Lib.hid (And.intro h7 p7)
    clear kB fB tB h7 p7 h6
    go_wp2
    exact bodyPost_ret (v := .agg #[.bool g6, .slice A6 m6 c6, .pointer q6]) (by simp [results, Tryz.results73, go_sem, r0', r1', r2']) rfl ⟨_, rfl, H7.out.1, H7.out.2⟩
end
section
set_option linter.unusedVariables false
open Go.RowKit
set_option maxHeartbeats 1600000 in
set_option maxRecDepth 100000 in
theorem bare_any (v1 : Value) (r1 : Int) (fs : List (Key × Int)) (M : Nat) (w : World) (h1 : TM w v1 r1 fs)
    (hM : Upto M fs) (hL : fs.length < 30000) (hbig : M + 1100000 * M < 4294967296 ^ 30000) (hr1 : r1.natAbs < 4294967296 ^ 30000) :
    Calls Tryz.prog 105 #[v1] w fun e w' => ∃ v, e = .returned v ∧ TMO w' w.heap.size v (r1 + r1 * (-1)) (addM fs [] (-1)) ∧ Pu w w' := by
  obtain ⟨g1, A1, n1, c1, m1, rfl⟩ := h1.shape
  have hadd : ∀ W v3, Pu w W → TM W v3 r1 [] → Calls Tryz.prog 55 #[.agg #[.bool g1, .slice A1 n1 c1, .pointer m1], v3] W fun e w' => ∃ v, e = .returned v ∧ TMO w' W.heap.size v (r1 + r1 * (-1)) (addM fs [] (-1)) ∧ Pu W w' := fun W v3 p hz =>
    tminus_any _ _ r1 r1 fs [] M M W (h1.pu p) hz hM (Upto.nil M) (by simpa using hL) hbig hr1 hr1
  have H1 := Lib.hid h1
  have Hadd := Lib.hid hadd
  obtain ⟨W, hWe⟩ : ∃ W, W = (w.alloc (.cells #[.bool g1, .slice A1 n1 c1, .pointer m1] 33)).alloc (.cells #[.bool false, .slice none 0 0, .pointer none] 33) := ⟨_, rfl⟩
  have pW : Pu w W := by rw [hWe]; exact ((Pu.refl w).alloc _).alloc _
  have k1 : Blk W w.heap.size 33 #[.bool g1, .slice A1 n1 c1, .pointer m1] := by rw [hWe]; exact (Blk.new w _ _).alloc _
  have k4 : Blk W (w.heap.size + 1) 33 #[.bool false, .slice none 0 0, .pointer none] := by rw [hWe]; exact Blk.at_new _ _ _ (by simp)
  have hsz : W.heap.size = w.heap.size + 2 := by rw [hWe]; simp
  have d0 : W.cell? ⟨w.heap.size, 0, none⟩ = some (.bool g1) := k1.cell 0
  have d1 : W.cell? ⟨w.heap.size, 1, none⟩ = some (.slice A1 n1 c1) := k1.cell 1
  have d2 : W.cell? ⟨w.heap.size, 2, none⟩ = some (.pointer m1) := k1.cell 2
  have hP : Pu W W.drew := (Pu.refl W).drew
  have HWe := Lib.hid hWe
  clear hWe hadd h1 hM hbig hr1
  go_enter Tryz.func105, Tryz.ntmps105
  go_wp2_with fail
  rw [← HWe.out]
  go_region_with (first
    | (go_at_call 68; refine (trest_any _ _ _ _ (H1.out.pu (pW.trans hP))).mono ?_; rintro e u2 ⟨v5, rfl, h5, p9⟩; replace hP := hP.trans p9; obtain ⟨g5, A5, m5, c5, rfl⟩ := h5.shape2; replace d0 := (k1.pu hP).cell 0; replace d1 := (k1.pu hP).cell 1; replace d2 := (k1.pu hP).cell 2)
    | (go_at_call 32; refine (tnum_any _ _ _ h5).mono ?_; rintro e u4 ⟨v7, rfl, h8, p11⟩; replace hP := hP.trans p11; have z12 := hP.size; obtain ⟨g7, A7, m7, c7, q7, rfl⟩ := h8.shape; replace d0 := (k1.pu hP).cell 0; replace d1 := (k1.pu hP).cell 1; replace d2 := (k1.pu hP).cell 2)
    | (go_at_call 55; refine (Hadd.out _ _ (pW.trans hP) h8).mono ?_; rintro e u3 ⟨v6, rfl, h6, p10⟩; replace hP := hP.trans p10; obtain ⟨g6, A6, m6, c6, q6, rfl⟩ := h6.tm.shape; have l4' := k4.pu hP; have ka0 := l4'.cell 0; have ka1 := l4'.cell 1; have ka2 := l4'.cell 2; have kf0 := l4'.frozen 0; have kf1 := l4'.frozen 1; have kf2 := l4'.frozen 2))
  all_goals
    obtain ⟨kB, fB, tB⟩ := over_t l4' g6 A6 m6 c6 q6
    have h7 := (h6.frT fB (fun i e => by
      have e' : i = w.heap.size + 1 := e
      omega) tB).base_ (base' := w.heap.size) (by omega)
    have p7 := (pW.trans hP).step fB (fun i e => by
      have e' : i = w.heap.size + 1 := e
      omega)
    have r0' := kB.cell 0
    have r1' := kB.cell 1
    have r2' := kB.cell 2
    have H7 := Lib.hid (And.intro h7 p7)
    clear kB fB tB h7 p7 h6
    go_wp2
    exact bodyPost_ret (v := .agg #[.bool g6, .slice A6 m6 c6, .pointer q6]) (by simp [results, Tryz.results105, go_sem, r0', r1', r2']) rfl ⟨_, rfl, H7.out.1, H7.out.2⟩
end
section
set_option linter.unusedVariables false
open Go.RowKit
theorem kts_at {w : World} {A : Option Addr} {n c : Nat} {k : Key} {l : List Key} (h : Sl w 1 A n c (kts (k :: l))) : ∃ b : Nat × Nat, A = some ⟨b.1, b.2, none⟩ ∧ b.1 < w.heap.size ∧ w.cell? ⟨b.1, b.2, none⟩ = some (.string ⟨k.toArray⟩) ∧ 0 < n := by
  have h1 := h.1
  have hn : 0 < n := by
    simp [kts] at h1
    omega
  obtain ⟨b, off, rfl, hb, hc⟩ := h.2.2 hn
  exact ⟨(b, off), rfl, hb, hc 0 _ (by simp [kts]), hn⟩
set_option maxHeartbeats 1600000 in
set_option maxRecDepth 100000 in
theorem first_any (v1 : Value) (r1 : Int) (k : Key) (z : Int) (fs : List (Key × Int)) (w : World) (h1 : TM w v1 r1 ((k, z) :: fs)) (hz : z.natAbs < 4294967296 ^ 40000) (hf : factor ((k, z) :: fs) k = z) :
    Calls Tryz.prog 108 #[v1] w fun e w' => e = .returned (.int .i64 z.sign) ∧ Pu w w' := by
  obtain ⟨g1, A1, n1, c1, m1, rfl⟩ := h1.shape
  have H1 := Lib.hid h1
  obtain ⟨W, hWe⟩ : ∃ W, W = w.alloc (.cells #[.bool g1, .slice A1 n1 c1, .pointer m1] 33) := ⟨_, rfl⟩
  have pW : Pu w W := by rw [hWe]; exact (Pu.refl w).alloc _
  have k1 : Blk W w.heap.size 33 #[.bool g1, .slice A1 n1 c1, .pointer m1] := by rw [hWe]; exact Blk.new w _ _
  have d0 : W.cell? ⟨w.heap.size, 0, none⟩ = some (.bool g1) := k1.cell 0
  have d1 : W.cell? ⟨w.heap.size, 1, none⟩ = some (.slice A1 n1 c1) := k1.cell 1
  have d2 : W.cell? ⟨w.heap.size, 2, none⟩ = some (.pointer m1) := k1.cell 2
  have hP : Pu W W.drew := (Pu.refl W).drew
  have HWe := Lib.hid hWe
  have Hz := Lib.hid (And.intro hz hf)
  clear hWe h1 hz hf
  go_enter Tryz.func108, Tryz.ntmps108
  go_wp2_with fail
  rw [← HWe.out]
  go_region_with (first
    | (go_at_call 58; refine (tnames_any _ _ _ _ (H1.out.pu (pW.trans hP))).mono ?_; rintro e u2 ⟨A5, m5, c5, rfl, ho, hn5, p9⟩; replace hP := hP.trans p9; obtain ⟨⟨nb, no⟩, rfl, y1, y2, y3⟩ := kts_at (Sl.of_own ho); replace d0 := (k1.pu hP).cell 0; replace d1 := (k1.pu hP).cell 1; replace d2 := (k1.pu hP).cell 2)
    | (go_at_call 14; refine (tfactor_any _ _ k _ _ (H1.out.pu (pW.trans hP))).mono ?_; rintro e u4 ⟨v7, rfl, h8, p11⟩; replace hP := hP.trans p11; rw [Hz.out.2] at h8; obtain ⟨g7, A7, m7, c7, rfl⟩ := h8.shape2; replace d0 := (k1.pu hP).cell 0; replace d1 := (k1.pu hP).cell 1; replace d2 := (k1.pu hP).cell 2)
    | (go_at_call 15; refine (sign_any _ _ _ h8 Hz.out.1).mono ?_; rintro e u5 ⟨rfl, p12⟩; replace hP := hP.trans p12))
  all_goals
    go_wp2
    go_ret
    exact ⟨rfl, pW.trans hP⟩
end
section
set_option linter.unusedVariables false
open Go.RowKit
def Tt (t : TypeId) : Prop := t = 153 ∨ t = 102 ∨ t = 159 ∨ t = 97 ∨ t = 35
instance (t : TypeId) : Decidable (Tt t) := by unfold Tt; infer_instance
def Qf (base : Nat) (w w' : World) : Prop := ∃ S : Nat → Prop, Fr S w w' ∧ ∀ g, S g → base ≤ g ∧ ∃ t cs fz, w.heap[g]? = some (.cells cs t fz) ∧ Tt t
theorem Pu.qf {w w' : World} (h : Pu w w') (base : Nat) : Qf base w w' := ⟨_, h, fun g hg => hg.elim⟩
theorem Qf.of {base : Nat} {S : Nat → Prop} {w w' : World} (h : Fr S w w') (h2 : ∀ g, S g → base ≤ g ∧ ∃ t cs fz, w.heap[g]? = some (.cells cs t fz) ∧ Tt t) : Qf base w w' := ⟨S, h, h2⟩
theorem Qf.le {base base' : Nat} {w w' : World} (h : Qf base w w') (hb : base' ≤ base) : Qf base' w w' := by
  obtain ⟨S, h1, h2⟩ := h
  exact ⟨S, h1, fun g hg => ⟨Nat.le_trans hb (h2 g hg).1, (h2 g hg).2⟩⟩
theorem Qf.trans {base : Nat} {a b c : World} (h : Qf base a b) (k : Qf base b c) : Qf base a c := by
  obtain ⟨S, h1, h2⟩ := h
  obtain ⟨S', k1, k2⟩ := k
  refine ⟨fun g => g < a.heap.size ∧ (S g ∨ S' g), h1.trans' k1 (fun g hg hs => ⟨hg, .inl hs⟩) (fun g hg hs => ⟨hg, .inr hs⟩), ?_⟩
  rintro g ⟨hg, hs⟩
  by_cases c : S g
  · exact h2 g c
  · rcases hs with hs | hs
    · exact h2 g hs
    · obtain ⟨hb, t, cs, fz, e, ht⟩ := k2 g hs
      rw [h1.block g hg c] at e
      exact ⟨hb, t, cs, fz, e, ht⟩
theorem Qf.size {base : Nat} {w w' : World} (h : Qf base w w') : w.heap.size ≤ w'.heap.size := by
  obtain ⟨S, h1, h2⟩ := h
  exact h1.size
theorem Qf.pu {base : Nat} {a w w' : World} (p : Pu a w) (h : Qf base w w') (hb : a.heap.size ≤ base) : Pu a w' := by
  obtain ⟨S, h1, h2⟩ := h
  exact p.step h1 (fun g hg => Nat.le_trans hb (h2 g hg).1)
theorem Blk.qf {base g : Nat} {t : TypeId} {cs : Array Value} {w w' : World} (h : Blk w g t cs) (q : Qf base w w') (ht : ¬ Tt t) : Blk w' g t cs := by
  obtain ⟨S, h1, h2⟩ := q
  refine h.fr h1 (fun hs => ?_)
  obtain ⟨_, t', cs', fz', e, ht'⟩ := h2 g hs
  unfold Blk at h
  rw [h] at e
  injection e with e
  injection e with _ e
  rw [← e] at ht'
  exact ht ht'
theorem Blk.qfb {base g : Nat} {t : TypeId} {cs : Array Value} {w w' : World} (h : Blk w g t cs) (q : Qf base w w') (hb : g < base) : Blk w' g t cs := by
  obtain ⟨S, h1, h2⟩ := q
  refine h.fr h1 (fun hs => ?_)
  have := (h2 g hs).1
  omega
theorem ZR.qf {base : Nat} {w w' : World} {v : Value} {z : Int} (h : ZR w v z) (q : Qf base w w') : ZR w' v z := by
  obtain ⟨S, h1, h2⟩ := q
  refine h.frT h1 (fun g hg => ?_)
  obtain ⟨_, t, cs, fz, e, ht⟩ := h2 g hg
  refine ⟨t, cs, fz, e, fun e2 => ?_⟩
  rw [e2] at ht
  exact absurd ht (by decide)
theorem HoldM.qf {base : Nat} {w w' : World} {L : List (Key × Part)} {fs : List (Key × Int)} (h : HoldM w L fs) (q : Qf base w w') : HoldM w' L fs :=
  ⟨h.1, fun i p f h1 h2 => ⟨(h.2 i p f h1 h2).1, (h.2 i p f h1 h2).2.qf q⟩⟩
theorem MOZ.qf {base base' b : Nat} {r : Option Nat} {L : List (Key × Part)} {w w' : World} (h : MOZ w base' b r L) (q : Qf base w w') : MOZ w' base' b r L := by
  have hq := q
  obtain ⟨S, h1, h2⟩ := q
  have key : ∀ g t cs fz, w.heap[g]? = some (.cells cs t fz) → ¬ Tt t → ¬ S g := fun g t cs fz e hn hs => by
    obtain ⟨_, t', cs', fz', e', ht'⟩ := h2 g hs
    rw [e] at e'
    injection e' with e'
    injection e' with _ e'
    rw [← e'] at ht'
    exact hn ht'
  have h' := h
  obtain ⟨A, n, c, k1, k2, k3, k4⟩ := h
  refine h'.fr h1 (key b _ _ _ k1 (by decide)) (fun g hg => ?_)
  rcases k2.2 with ⟨hv, _⟩ | ⟨g', cap, cur, hv, _, hgg, _⟩
  · rw [hv] at k3
    rw [← k3] at hg
    cases hg
  · rw [hv] at k3
    rw [← k3] at hg
    have e : g' = g := by injection hg
    subst e
    exact key g' _ _ _ hgg (by decide)
theorem TMO.qf {base base' : Nat} {v : Value} {r : Int} {fs : List (Key × Int)} {w w' : World} (h : TMO w base' v r fs) (q : Qf base w w') : TMO w' base' v r fs := by
  obtain ⟨g, A, n, c, b, r', L, e, hz, hm, hh⟩ := h
  exact ⟨g, A, n, c, b, r', L, e, hz.qf q, hm.qf q, hh.qf q⟩
theorem TMO.pu {base' : Nat} {v : Value} {r : Int} {fs : List (Key × Int)} {w w' : World} (h : TMO w base' v r fs) (p : Pu w w') : TMO w' base' v r fs := h.qf (p.qf 0)
def NPt (w : World) (N : Nat → Prop) (p : Value) (o : Option Int) : Prop :=
  (p = .pointer none ∧ o = none) ∨ ∃ (b : Nat) (g : Bool) (A : Option Addr) (n c : Nat) (z : Int), p = .pointer (some ⟨b, 0, none⟩) ∧ o = some z ∧ N b ∧ Blk w b 30 #[.bool g, .slice A n c] ∧ ZR w (.agg #[.bool g, .slice A n c]) z
theorem NPt.none (w : World) (N : Nat → Prop) : NPt w N (.pointer none) none := .inl ⟨rfl, rfl⟩
theorem NPt.qf {base : Nat} {N : Nat → Prop} {p : Value} {o : Option Int} {w w' : World} (h : NPt w N p o) (q : Qf base w w') : NPt w' N p o := by
  rcases h with h | ⟨b, g, A, n, c, z, h1, h2, h3, h4, h5⟩
  · exact .inl h
  · exact .inr ⟨b, g, A, n, c, z, h1, h2, h3, h4.qf q (by decide), h5.qf q⟩
theorem NPt.pu {N : Nat → Prop} {p : Value} {o : Option Int} {w w' : World} (h : NPt w N p o) (q : Pu w w') : NPt w' N p o := h.qf (q.qf 0)
theorem NPt.mono {N N' : Nat → Prop} {p : Value} {o : Option Int} {w : World} (h : NPt w N p o) (hb : ∀ b, b < w.heap.size → N b → N' b) : NPt w N' p o := by
  rcases h with h | ⟨b, g, A, n, c, z, h1, h2, h3, h4⟩
  · exact .inl h
  · exact .inr ⟨b, g, A, n, c, z, h1, h2, hb b h4.1.lt h3, h4⟩
theorem NPt.ptr {N : Nat → Prop} {p : Value} {o : Option Int} {w : World} (h : NPt w N p o) : ∃ a, p = .pointer a := by
  rcases h with h | ⟨b, g, A, n, c, z, h1, h2⟩
  · exact ⟨_, h.1⟩
  · exact ⟨_, h1⟩
structure Pr where
  fs : List (Key × Int)
  up : Option Int
  lo : Option Int
  eq : Option Int
structure PairAt (w : World) (base : Nat) (N : Nat → Prop) (q : Nat) (g : Bool) (A : Option Addr) (n c : Nat) (m : Option Addr) (pu pl pe : Value) (p : Pr) : Prop where
  blk : Blk w q 159 #[.bool g, .slice A n c, .pointer m, pu, pl, pe]
  ge : base ≤ q
  tm : TMO w base (.agg #[.bool g, .slice A n c, .pointer m]) 0 p.fs
  u : NPt w N pu p.up
  l : NPt w N pl p.lo
  e : NPt w N pe p.eq
def PairIs (w : World) (base : Nat) (N : Nat → Prop) (q : Nat) (p : Pr) : Prop := ∃ g A n c m pu pl pe, PairAt w base N q g A n c m pu pl pe p
theorem PairAt.is {N : Nat → Prop} {w : World} {base q : Nat} {g : Bool} {A : Option Addr} {n c : Nat} {m : Option Addr} {pu pl pe : Value} {p : Pr} (h : PairAt w base N q g A n c m pu pl pe p) : PairIs w base N q p := ⟨g, A, n, c, m, pu, pl, pe, h⟩
theorem PairIs.pu {N : Nat → Prop} {w w' : World} {base q : Nat} {p : Pr} (h : PairIs w base N q p) (k : Pu w w') : PairIs w' base N q p := by
  obtain ⟨g, A, n, c, m, pu, pl, pe, h⟩ := h
  exact ⟨g, A, n, c, m, pu, pl, pe, h.blk.pu k, h.ge, h.tm.pu k, h.u.pu k, h.l.pu k, h.e.pu k⟩
theorem PairIs.lt {N : Nat → Prop} {w : World} {base q : Nat} {p : Pr} (h : PairIs w base N q p) : base ≤ q ∧ q < w.heap.size := by
  obtain ⟨g, A, n, c, m, pu, pl, pe, h⟩ := h
  exact ⟨h.ge, h.blk.lt⟩
theorem PairIs.fr {N : Nat → Prop} {S : Nat → Prop} {w w' : World} {base base' q : Nat} {p : Pr} (h : PairIs w base N q p) (k : Fr S w w') (h2 : ∀ g, S g → base' ≤ g ∧ ∃ t cs fz, w.heap[g]? = some (.cells cs t fz) ∧ Tt t) (hq : ¬ S q) : PairIs w' base N q p := by
  obtain ⟨g, A, n, c, m, pu, pl, pe, h⟩ := h
  have Q := Qf.of k h2
  exact ⟨g, A, n, c, m, pu, pl, pe, h.blk.fr k hq, h.ge, h.tm.qf Q, h.u.qf Q, h.l.qf Q, h.e.qf Q⟩
def HoldP (w : World) (base : Nat) (N : Nat → Prop) (L : List (Key × Nat)) (ps : List (Key × Pr)) : Prop :=
  L.length = ps.length ∧ (∀ (i : Nat) (x : Key × Nat) (y : Key × Pr), L[i]? = some x → ps[i]? = some y → x.1 = y.1 ∧ PairIs w base N x.2 y.2) ∧ (L.map (·.2)).Nodup
theorem HoldP.nil (w : World) (base : Nat) (N : Nat → Prop) : HoldP w base N [] [] := ⟨rfl, fun i x y h => by simp at h, List.Pairwise.nil⟩
theorem HoldP.pu {N : Nat → Prop} {w w' : World} {base : Nat} {L : List (Key × Nat)} {ps : List (Key × Pr)} (h : HoldP w base N L ps) (k : Pu w w') : HoldP w' base N L ps :=
  ⟨h.1, fun i x y hx hy => ⟨(h.2.1 i x y hx hy).1, (h.2.1 i x y hx hy).2.pu k⟩, h.2.2⟩
theorem HoldP.keys {N : Nat → Prop} {w : World} {base : Nat} {L : List (Key × Nat)} {ps : List (Key × Pr)} (h : HoldP w base N L ps) : L.map (·.1) = ps.map (·.1) := by
  refine List.ext_getElem? fun i => ?_
  rw [List.getElem?_map, List.getElem?_map]
  rcases Nat.lt_or_ge i L.length with hi | hi
  · rw [List.getElem?_eq_getElem hi, List.getElem?_eq_getElem (by rw [← h.1]; exact hi)]
    have := (h.2.1 i _ _ (List.getElem?_eq_getElem hi) (List.getElem?_eq_getElem (by rw [← h.1]; exact hi))).1
    simp [this]
  · rw [List.getElem?_eq_none hi, List.getElem?_eq_none (by rw [← h.1]; exact hi)]
    rfl
theorem HoldP.lt {N : Nat → Prop} {w : World} {base : Nat} {L : List (Key × Nat)} {ps : List (Key × Pr)} (h : HoldP w base N L ps) : ∀ x ∈ L, base ≤ x.2 ∧ x.2 < w.heap.size := fun x hx => by
  obtain ⟨i, hi⟩ := List.getElem?_of_mem hx
  have hlt := (List.getElem?_eq_some_iff.1 hi).1
  exact (h.2.1 i x _ hi (List.getElem?_eq_getElem (by rw [← h.1]; exact hlt))).2.lt
theorem HoldP.fr {N : Nat → Prop} {S : Nat → Prop} {w w' : World} {base base' : Nat} {L : List (Key × Nat)} {ps : List (Key × Pr)} (h : HoldP w base N L ps) (k : Fr S w w') (h2 : ∀ g, S g → base' ≤ g ∧ ∃ t cs fz, w.heap[g]? = some (.cells cs t fz) ∧ Tt t) (hq : ∀ x ∈ L, ¬ S x.2) : HoldP w' base N L ps :=
  ⟨h.1, fun i x y hx hy => ⟨(h.2.1 i x y hx hy).1, (h.2.1 i x y hx hy).2.fr k h2 (hq x (List.mem_of_getElem? hx))⟩, h.2.2⟩
theorem HoldP.get {N : Nat → Prop} {w : World} {base : Nat} {L : List (Key × Nat)} {ps : List (Key × Pr)} (h : HoldP w base N L ps) (hr : Rise L) {k : Key} (ht : there ps k = true) : ∃ q p, L[place ps k]? = some (k, q) ∧ lookM ps k = some p ∧ ps[place ps k]? = some (k, p) ∧ PairIs w base N q p ∧ there L k = true ∧ place L k = place ps k := by
  have hf := rise_keys h.keys hr
  have e1 := there_keys L ps k h.keys
  have e2 := place_keys L ps k h.keys
  obtain ⟨p, hp⟩ := (there_iff hf k).1 ht
  obtain ⟨q, hq⟩ := (there_iff hr k).1 (e1.trans ht)
  rw [e2] at hq
  refine ⟨q, p, hq, ?_, hp, (h.2.1 _ _ _ hq hp).2, e1.trans ht, e2⟩
  unfold lookM
  rw [ht, if_pos rfl, hp]
  rfl
theorem HoldP.put {N : Nat → Prop} {w : World} {base : Nat} {L : List (Key × Nat)} {ps : List (Key × Pr)} (h : HoldP w base N L ps) {k : Key} (ht : there ps k = false) {q : Nat} {p : Pr} (hp : PairIs w base N q p) (hq : ∀ x ∈ L, x.2 ≠ q) : HoldP w base N (putM L k q) (putM ps k p) := by
  have e1 := there_keys L ps k h.keys
  have e2 := place_keys L ps k h.keys
  have hl := place_le ps k
  have hle := h.1
  unfold putM
  rw [e1, ht, e2]
  simp only [Bool.false_eq_true, if_false]
  refine ⟨by simp [hle], fun i x y hx hy => ?_, ?_⟩
  · rcases Nat.lt_trichotomy i (place ps k) with c | c | c
    · rw [List.getElem?_append_left (by rw [List.length_take]; omega), List.getElem?_take, if_pos c] at hx hy
      exact h.2.1 i x y hx hy
    · subst c
      rw [List.getElem?_append_right (by rw [List.length_take]; omega), List.length_take, Nat.min_eq_left (by omega), Nat.sub_self, List.getElem?_cons_zero] at hx hy
      injection hx with hx
      injection hy with hy
      subst hx hy
      exact ⟨rfl, hp⟩
    · obtain ⟨j, rfl⟩ : ∃ j, i = place ps k + (j + 1) := ⟨i - place ps k - 1, by omega⟩
      rw [List.getElem?_append_right (by rw [List.length_take]; omega), List.length_take, Nat.min_eq_left (by omega), Nat.add_sub_cancel_left, List.getElem?_cons_succ, List.getElem?_drop] at hx hy
      exact h.2.1 _ x y hx hy
  · have h1 : ((L.take (place ps k) ++ L.drop (place ps k)).map (·.2)).Nodup := by rw [List.take_append_drop]; exact h.2.2
    have h2 : q ∉ L.map (·.2) := fun hm => by
      obtain ⟨x, hx, e⟩ := List.mem_map.1 hm
      exact hq x hx e
    have h3 : ((L.take (place ps k) ++ (k, q) :: L.drop (place ps k)).map (·.2)).Perm (q :: (L.take (place ps k) ++ L.drop (place ps k)).map (·.2)) := by
      simp only [List.map_append, List.map_cons]
      exact List.perm_middle
    refine h3.nodup_iff.2 (List.nodup_cons.2 ⟨?_, h1⟩)
    rw [List.take_append_drop]
    exact h2
theorem HoldP.set {N : Nat → Prop} {w w' : World} {base base' : Nat} {L : List (Key × Nat)} {ps : List (Key × Pr)} {S : Nat → Prop} (h : HoldP w base N L ps) (hr : Rise L) {k : Key} (ht : there ps k = true) {q : Nat} {p : Pr} (hq : L[place ps k]? = some (k, q)) (k1 : Fr S w w') (h2 : ∀ g, S g → base' ≤ g ∧ ∃ t cs fz, w.heap[g]? = some (.cells cs t fz) ∧ Tt t) (hS : ∀ x ∈ L, x.2 ≠ q → ¬ S x.2) (hp : PairIs w' base N q p) : HoldP w' base N L (putM ps k p) := by
  have hl := place_le ps k
  have hle := h.1
  have hlt := (List.getElem?_eq_some_iff.1 hq).1
  unfold putM
  rw [ht]
  simp only [if_true]
  refine ⟨by simp; omega, fun i x y hx hy => ?_, h.2.2⟩
  have hne : i ≠ place ps k → x.2 ≠ q := fun hi e => by
    have e1 : (L.map (·.2))[i]? = some q := by rw [List.getElem?_map, hx, ← e]; rfl
    have e2 : (L.map (·.2))[place ps k]? = some q := by rw [List.getElem?_map, hq]; rfl
    obtain ⟨i1, a1⟩ := List.getElem?_eq_some_iff.1 e1
    obtain ⟨i2, a2⟩ := List.getElem?_eq_some_iff.1 e2
    rcases Nat.lt_or_gt_of_ne hi with c | c
    · exact List.pairwise_iff_getElem.1 h.2.2 _ _ i1 i2 c (a1.trans a2.symm)
    · exact List.pairwise_iff_getElem.1 h.2.2 _ _ i2 i1 c (a2.trans a1.symm)
  rcases Nat.lt_trichotomy i (place ps k) with c | c | c
  · rw [List.getElem?_append_left (by rw [List.length_take]; omega), List.getElem?_take, if_pos c] at hy
    obtain ⟨a, b⟩ := h.2.1 i x y hx hy
    exact ⟨a, b.fr k1 h2 (hS x (List.mem_of_getElem? hx) (hne (by omega)))⟩
  · subst c
    rw [List.getElem?_append_right (by rw [List.length_take]; omega), List.length_take, Nat.min_eq_left (by omega), Nat.sub_self, List.getElem?_cons_zero] at hy
    injection hy with hy
    subst hy
    rw [hq] at hx
    injection hx with hx
    subst hx
    exact ⟨rfl, hp⟩
  · obtain ⟨j, rfl⟩ : ∃ j, i = place ps k + (j + 1) := ⟨i - place ps k - 1, by omega⟩
    rw [List.getElem?_append_right (by rw [List.length_take]; omega), List.length_take, Nat.min_eq_left (by omega), Nat.add_sub_cancel_left, List.getElem?_cons_succ, List.getElem?_drop, show place ps k + 1 + j = place ps k + (j + 1) by omega] at hy
    obtain ⟨a, b⟩ := h.2.1 _ x y hx hy
    exact ⟨a, b.fr k1 h2 (hS x (List.mem_of_getElem? hx) (hne (by omega)))⟩
structure TableAt (w : World) (base : Nat) (N : Nat → Prop) (tb : Nat) (ok : Bool) (mb : Nat) (r : Option Nat) (L : List (Key × Nat)) (ps : List (Key × Pr)) : Prop where
  blk : Blk w tb 97 #[.pointer (some ⟨mb, 0, none⟩), .bool ok]
  ge : base ≤ tb
  mo : MOP w base mb r L
  hp : HoldP w base N L ps
theorem TableAt.pu {N : Nat → Prop} {w w' : World} {base tb mb : Nat} {ok : Bool} {r : Option Nat} {L : List (Key × Nat)} {ps : List (Key × Pr)} (h : TableAt w base N tb ok mb r L ps) (k : Pu w w') : TableAt w' base N tb ok mb r L ps :=
  ⟨h.blk.pu k, h.ge, h.mo.pu k, h.hp.pu k⟩
theorem TableAt.rise {N : Nat → Prop} {w : World} {base tb mb : Nat} {ok : Bool} {r : Option Nat} {L : List (Key × Nat)} {ps : List (Key × Pr)} (h : TableAt w base N tb ok mb r L ps) : Rise L ∧ Rise ps := by
  have := h.mo.mr.rise
  exact ⟨this, rise_keys h.hp.keys this⟩
theorem PairAt.nlt {N : Nat → Prop} {w : World} {base q : Nat} {g : Bool} {A : Option Addr} {n c : Nat} {m : Option Addr} {pu pl pe : Value} {p : Pr} (h : PairAt w base N q g A n c m pu pl pe p) {N' : Nat → Prop} (hN : ∀ b, b < w.heap.size → N b → N' b) : PairAt w base N' q g A n c m pu pl pe p :=
  ⟨h.blk, h.ge, h.tm, h.u.mono hN, h.l.mono hN, h.e.mono hN⟩
theorem PairIs.mono {N N' : Nat → Prop} {w : World} {base q : Nat} {p : Pr} (h : PairIs w base N q p) (hN : ∀ b, b < w.heap.size → N b → N' b) : PairIs w base N' q p := by
  obtain ⟨g, A, n, c, m, pu, pl, pe, h⟩ := h
  exact ⟨g, A, n, c, m, pu, pl, pe, h.nlt hN⟩
theorem TableAt.mono {N N' : Nat → Prop} {w : World} {base tb mb : Nat} {ok : Bool} {r : Option Nat} {L : List (Key × Nat)} {ps : List (Key × Pr)} (h : TableAt w base N tb ok mb r L ps) (hN : ∀ b, b < w.heap.size → N b → N' b) : TableAt w base N' tb ok mb r L ps :=
  ⟨h.blk, h.ge, h.mo, h.hp.1, fun i x y hx hy => ⟨(h.hp.2.1 i x y hx hy).1, (h.hp.2.1 i x y hx hy).2.mono hN⟩, h.hp.2.2⟩
end
section
set_option linter.unusedVariables false
open Go.RowKit
def ttext (r : Int) (fs : List (Key × Int)) : Key := (fs.flatMap fun f => ztext f.2 ++ (42 :: (f.1 ++ [43]))) ++ ztext r
structure RowM where
  rest : Int
  fs : List (Key × Int)
  eq : Bool
def greatM : Option Int → Int → Option Int
  | none, n => some n
  | some m, n => some (if n > m then n else m)
def negM : List (Key × Int) → Bool
  | [] => false
  | f :: _ => decide (f.2 < 0)
inductive Fact where
  | bad
  | nothing
  | eq (fs : List (Key × Int)) (n : Int)
  | up (fs : List (Key × Int)) (n : Int)
  | lo (fs : List (Key × Int)) (n : Int)
def gcdM (fs : List (Key × Int)) : Int := gall (fs.map (·.2))
def divisorM (fs : List (Key × Int)) : Int := if negM fs then -(gcdM fs) else gcdM fs
def factOf (r : RowM) : Fact :=
  if gcdM r.fs = 0 then (if r.rest > 0 ∨ (r.eq = true ∧ r.rest < 0) then .bad else .nothing)
  else if r.eq = true then
    (if r.rest % divisorM r.fs = 0 then .eq (divM r.fs (divisorM r.fs)) (r.rest / divisorM r.fs) else .bad)
  else if negM r.fs then .lo (mulM (divM r.fs (gcdM r.fs)) (-1)) (-((-r.rest) / gcdM r.fs))
  else .up (divM r.fs (gcdM r.fs)) (-((-r.rest) / gcdM r.fs))
def pairOf (ps : List (Key × Pr)) (fs : List (Key × Int)) : Pr := (lookM ps (ttext 0 fs)).getD ⟨fs, none, none, none⟩
def learnF (s : Bool × List (Key × Pr)) : Fact → Bool × List (Key × Pr)
  | .bad => (false, s.2)
  | .nothing => s
  | .eq fs n => (s.1 && decide ((pairOf s.2 fs).eq = none ∨ (pairOf s.2 fs).eq = some n), putM s.2 (ttext 0 fs) { pairOf s.2 fs with eq := some n })
  | .up fs n => (s.1, putM s.2 (ttext 0 fs) { pairOf s.2 fs with up := greatM (pairOf s.2 fs).up n })
  | .lo fs n => (s.1, putM s.2 (ttext 0 fs) { pairOf s.2 fs with lo := greatM (pairOf s.2 fs).lo n })
def learnM (s : Bool × List (Key × Pr)) (r : RowM) : Bool × List (Key × Pr) := learnF s (factOf r)
def boundM (p : Pr) (e : Int) : Bool := (match p.up with | none => true | some u => decide (u ≤ e)) && (match p.lo with | none => true | some l => decide (l ≤ -e))
def meetM (p : Pr) : Option Int :=
  match p.eq, p.up, p.lo with
  | none, some a, some b => if a + b = 0 then some a else none
  | e, _, _ => e
def rowsM (p : Pr) : List RowM × Bool :=
  if (match p.eq, p.up, p.lo with | none, some a, some b => decide (a + b > 0) | _, _, _ => false) then ([], false)
  else match meetM p with
    | some e => ([⟨e, p.fs, true⟩], boundM p e)
    | none => ((match p.up with | none => [] | some a => [⟨a, p.fs, false⟩]) ++ (match p.lo with | none => [] | some b => [⟨b, mulM p.fs (-1), false⟩]), true)
theorem greatM_some (o : Option Int) (n : Int) : ∃ m, greatM o n = some m ∧ n ≤ m ∧ (∀ k, o = some k → k ≤ m) ∧ (m = n ∨ o = some m) := by
  cases o with
  | none => exact ⟨n, rfl, Int.le_refl _, fun k h => (by cases h), .inl rfl⟩
  | some k =>
    by_cases h : n > k
    · exact ⟨n, by simp [greatM, h], Int.le_refl _, fun j e => (by cases e; omega), .inl rfl⟩
    · exact ⟨k, by simp [greatM, h], by omega, fun j e => (by cases e; omega), .inr rfl⟩
theorem putM_putM {P : Type} {l : List (Key × P)} (hr : Rise l) (k : Key) (u v : P) : putM (putM l k u) k v = putM l k v := by
  refine rise_ext (putM_rise (putM_rise hr k u) k v) (putM_rise hr k v) (fun x => ?_)
  rw [look_put (putM_rise hr k u), look_put hr, look_put hr]
  split <;> rfl
end
section
set_option linter.unusedVariables false
open Go.RowKit
def Fact.of : Fact → Option (List (Key × Int))
  | .bad => none
  | .nothing => none
  | .eq fs _ => some fs
  | .up fs _ => some fs
  | .lo fs _ => some fs
def Top (S : Int → Prop) : Option Int → Prop
  | none => ∀ n, ¬ S n
  | some m => S m ∧ ∀ n, S n → n ≤ m
theorem Top.uniq {S : Int → Prop} {a b : Option Int} (ha : Top S a) (hb : Top S b) : a = b := by
  cases a with
  | none =>
    cases b with
    | none => rfl
    | some b => exact absurd hb.1 (ha b)
  | some a =>
    cases b with
    | none => exact absurd ha.1 (hb a)
    | some b =>
      have h1 := ha.2 b hb.1
      have h2 := hb.2 a ha.1
      rw [show a = b by omega]
theorem Top.great {S S' : Int → Prop} {o : Option Int} {n : Int} (h : Top S o) (hs : ∀ m, S' m ↔ S m ∨ m = n) : Top S' (greatM o n) := by
  obtain ⟨m, e, h1, h2, h3⟩ := greatM_some o n
  rw [e]
  refine ⟨?_, fun k hk => ?_⟩
  · rcases h3 with h3 | h3
    · exact (hs m).2 (.inr h3)
    · rw [h3] at h
      exact (hs m).2 (.inl h.1)
  · rcases (hs k).1 hk with hk | hk
    · cases o with
      | none => exact absurd hk (h k)
      | some j => exact Int.le_trans (h.2 k hk) (h2 j rfl)
    · omega
theorem Top.congr {S S' : Int → Prop} {o : Option Int} (h : Top S o) (hs : ∀ m, S' m ↔ S m) : Top S' o := by
  cases o with
  | none => exact fun n hn => h n ((hs n).1 hn)
  | some m => exact ⟨(hs m).2 h.1, fun n hn => h.2 n ((hs n).1 hn)⟩
def Apart (F : List Fact) : Prop := ∀ f ∈ F, ∀ g ∈ F, ∀ a b, f.of = some a → g.of = some b → ttext 0 a = ttext 0 b → a = b
def Fine (F : List Fact) : Prop := (∀ f ∈ F, f ≠ .bad) ∧ ∀ fs n m, Fact.eq fs n ∈ F → Fact.eq fs m ∈ F → n = m
structure Told (F : List Fact) (s : Bool × List (Key × Pr)) : Prop where
  rise : Rise s.2
  ok : s.1 = true ↔ Fine F
  key : ∀ k p, lookM s.2 k = some p → ttext 0 p.fs = k ∧ ∃ f ∈ F, f.of = some p.fs
  there : ∀ f ∈ F, ∀ fs, f.of = some fs → ∃ p, lookM s.2 (ttext 0 fs) = some p
  up : ∀ k p, lookM s.2 k = some p → Top (fun n => Fact.up p.fs n ∈ F) p.up
  lo : ∀ k p, lookM s.2 k = some p → Top (fun n => Fact.lo p.fs n ∈ F) p.lo
  eq0 : ∀ k p, lookM s.2 k = some p → ∀ n, p.eq = some n → Fact.eq p.fs n ∈ F
  eq1 : ∀ k p, lookM s.2 k = some p → ∀ n, Fact.eq p.fs n ∈ F → p.eq ≠ none
theorem told_nil : Told [] (true, []) where
  rise := List.Pairwise.nil
  ok := ⟨fun _ => ⟨fun f hf => (by cases hf), fun fs n m h => (by cases h)⟩, fun _ => rfl⟩
  key := fun k p h => by cases h
  there := fun f hf => by cases hf
  up := fun k p h => by cases h
  lo := fun k p h => by cases h
  eq0 := fun k p h => by cases h
  eq1 := fun k p h => by cases h
theorem Apart.sub {F G : List Fact} (h : Apart F) (hs : ∀ f ∈ G, f ∈ F) : Apart G := fun f hf g hg => h f (hs f hf) g (hs g hg)
theorem Told.pair {F : List Fact} {s : Bool × List (Key × Pr)} (h : Told F s) {f : Fact} {fs : List (Key × Int)} (hf : f.of = some fs) (ha : Apart (F ++ [f])) :
    (pairOf s.2 fs).fs = fs ∧ Top (fun n => Fact.up fs n ∈ F) (pairOf s.2 fs).up ∧ Top (fun n => Fact.lo fs n ∈ F) (pairOf s.2 fs).lo ∧ (∀ n, (pairOf s.2 fs).eq = some n → Fact.eq fs n ∈ F) ∧ (∀ n, Fact.eq fs n ∈ F → (pairOf s.2 fs).eq ≠ none) := by
  unfold pairOf
  cases e : lookM s.2 (ttext 0 fs) with
  | some p =>
    obtain ⟨h1, g, hg, h2⟩ := h.key _ p e
    have h3 : p.fs = fs := ha g (List.mem_append_left _ hg) f (List.mem_append_right _ (List.mem_singleton.2 rfl)) _ _ h2 hf h1
    have hu := h.up _ p e
    have hl := h.lo _ p e
    have h4 := h.eq0 _ p e
    have h5 := h.eq1 _ p e
    rw [h3] at hu hl h4 h5
    exact ⟨h3, hu, hl, h4, h5⟩
  | none =>
    have no : ∀ g ∈ F, g.of ≠ some fs := fun g hg e2 => by
      obtain ⟨p, hp⟩ := h.there g hg fs e2
      rw [e] at hp
      cases hp
    exact ⟨rfl, fun n hn => no _ hn rfl, fun n hn => no _ hn rfl, fun n hn => (by cases hn), fun n hn => absurd rfl (no _ hn)⟩
theorem Told.put {F : List Fact} {s : Bool × List (Key × Pr)} (h : Told F s) {f : Fact} {fs : List (Key × Int)} (hf : f.of = some fs) (ha : Apart (F ++ [f])) {p : Pr} {b : Bool} (hp : p.fs = fs)
    (hb : b = true ↔ Fine (F ++ [f])) (hu : Top (fun n => Fact.up fs n ∈ F ++ [f]) p.up) (hl : Top (fun n => Fact.lo fs n ∈ F ++ [f]) p.lo) (h0 : ∀ n, p.eq = some n → Fact.eq fs n ∈ F ++ [f]) (h1 : ∀ n, Fact.eq fs n ∈ F ++ [f] → p.eq ≠ none) :
    Told (F ++ [f]) (b, putM s.2 (ttext 0 fs) p) := by
  have hmem : f ∈ F ++ [f] := List.mem_append_right _ (List.mem_singleton.2 rfl)
  have look := fun x => look_put h.rise (ttext 0 fs) p x
  have other : ∀ k q, lookM (putM s.2 (ttext 0 fs) p) k = some q → (k = ttext 0 fs ∧ q = p) ∨ (k ≠ ttext 0 fs ∧ lookM s.2 k = some q) := fun k q hq => by
    rw [look] at hq
    split at hq
    · rename_i e
      injection hq with hq
      exact .inl ⟨e, hq.symm⟩
    · rename_i e
      exact .inr ⟨e, hq⟩
  have keep : ∀ k q, k ≠ ttext 0 fs → lookM s.2 k = some q → ∀ g : Fact, g.of = some q.fs → (g ∈ F ++ [f] ↔ g ∈ F) := fun k q hk hq g hg => by
    rw [List.mem_append, List.mem_singleton]
    refine ⟨fun h2 => h2.elim id (fun e => ?_), .inl⟩
    rw [e, hf] at hg
    injection hg with hg
    have := (h.key k q hq).1
    rw [← hg] at this
    exact absurd this.symm hk
  refine ⟨putM_rise h.rise _ _, hb, fun k q hq => ?_, fun g hg gs e => ?_, fun k q hq => ?_, fun k q hq => ?_, fun k q hq => ?_, fun k q hq => ?_⟩
  · rcases other k q hq with ⟨e1, e2⟩ | ⟨_, h3⟩
    · rw [e1, e2, hp]
      exact ⟨rfl, f, hmem, hf⟩
    · obtain ⟨h4, g, hg, h5⟩ := h.key k q h3
      exact ⟨h4, g, List.mem_append_left _ hg, h5⟩
  · show ∃ p', lookM (putM s.2 (ttext 0 fs) p) (ttext 0 gs) = some p'
    rw [look]
    split
    · exact ⟨_, rfl⟩
    · rename_i hne
      rcases List.mem_append.1 hg with hg | hg
      · exact h.there g hg gs e
      · rw [List.mem_singleton] at hg
        rw [hg, hf] at e
        injection e with e
        rw [e] at hne
        exact absurd rfl hne
  · rcases other k q hq with ⟨e1, e2⟩ | ⟨hk, h3⟩
    · rw [e2, hp]
      exact hu
    · exact (h.up k q h3).congr (fun m => keep k q hk h3 _ rfl)
  · rcases other k q hq with ⟨e1, e2⟩ | ⟨hk, h3⟩
    · rw [e2, hp]
      exact hl
    · exact (h.lo k q h3).congr (fun m => keep k q hk h3 _ rfl)
  · rcases other k q hq with ⟨e1, e2⟩ | ⟨hk, h3⟩
    · rw [e2, hp]
      exact h0
    · exact fun n hn => (keep k q hk h3 _ rfl).2 (h.eq0 k q h3 n hn)
  · rcases other k q hq with ⟨e1, e2⟩ | ⟨hk, h3⟩
    · rw [e2, hp]
      exact h1
    · exact fun n hn => h.eq1 k q h3 n ((keep k q hk h3 _ rfl).1 hn)
theorem fine_other {F : List Fact} {f : Fact} (h1 : f ≠ .bad) (h2 : ∀ fs n, f ≠ .eq fs n) : Fine (F ++ [f]) ↔ Fine F := by
  constructor
  · exact fun h => ⟨fun g hg => h.1 g (List.mem_append_left _ hg), fun fs n m hn hm => h.2 fs n m (List.mem_append_left _ hn) (List.mem_append_left _ hm)⟩
  · intro h
    refine ⟨fun g hg => ?_, fun fs n m hn hm => ?_⟩
    · rcases List.mem_append.1 hg with hg | hg
      · exact h.1 g hg
      · rw [List.mem_singleton] at hg
        rw [hg]
        exact h1
    · rcases List.mem_append.1 hn with hn | hn
      · rcases List.mem_append.1 hm with hm | hm
        · exact h.2 fs n m hn hm
        · exact absurd (List.mem_singleton.1 hm).symm (h2 fs m)
      · exact absurd (List.mem_singleton.1 hn).symm (h2 fs n)
theorem Told.next {F : List Fact} {s : Bool × List (Key × Pr)} (h : Told F s) (f : Fact) (ha : Apart (F ++ [f])) : Told (F ++ [f]) (learnF s f) := by
  have old : ∀ g : Fact, f.of = none → g.of ≠ none → (g ∈ F ++ [f] ↔ g ∈ F) := fun g hf hg => by
    rw [List.mem_append, List.mem_singleton]
    refine ⟨fun h2 => h2.elim id (fun e => ?_), .inl⟩
    rw [e, hf] at hg
    exact absurd rfl hg
  have same : f.of = none → ∀ b : Bool, (b = true ↔ Fine (F ++ [f])) → Told (F ++ [f]) (b, s.2) := fun hf b hb =>
    { rise := h.rise
      ok := hb
      key := fun k p hp => by
        obtain ⟨h1, g, hg, h2⟩ := h.key k p hp
        exact ⟨h1, g, List.mem_append_left _ hg, h2⟩
      there := fun g hg fs e => by
        have hg' := (old g hf (by rw [e]; simp)).1 hg
        exact h.there g hg' fs e
      up := fun k p hp => (h.up k p hp).congr (fun m => old _ hf (by simp [Fact.of]))
      lo := fun k p hp => (h.lo k p hp).congr (fun m => old _ hf (by simp [Fact.of]))
      eq0 := fun k p hp n hn => List.mem_append_left _ (h.eq0 k p hp n hn)
      eq1 := fun k p hp n hn => h.eq1 k p hp n ((old _ hf (by simp [Fact.of])).1 hn) }
  cases f with
  | bad => exact same rfl false ⟨fun e => (by cases e), fun hf => absurd rfl (hf.1 _ (List.mem_append_right _ (List.mem_singleton.2 rfl)))⟩
  | nothing =>
    exact same rfl s.1 (h.ok.trans (fine_other (by simp) (by simp)).symm)
  | up fs n =>
    obtain ⟨h1, h2, h3, h4, h5⟩ := h.pair (f := .up fs n) rfl ha
    exact h.put (f := .up fs n) rfl ha h1 (h.ok.trans (fine_other (by simp) (by simp)).symm) (h2.great (fun m => by simp)) (h3.congr (fun m => by simp)) (fun m hm => List.mem_append_left _ (h4 m hm)) (fun m hm => h5 m (by simpa using hm))
  | lo fs n =>
    obtain ⟨h1, h2, h3, h4, h5⟩ := h.pair (f := .lo fs n) rfl ha
    exact h.put (f := .lo fs n) rfl ha h1 (h.ok.trans (fine_other (by simp) (by simp)).symm) (h2.congr (fun m => by simp)) (h3.great (fun m => by simp)) (fun m hm => List.mem_append_left _ (h4 m hm)) (fun m hm => h5 m (by simpa using hm))
  | eq fs n =>
    obtain ⟨h1, h2, h3, h4, h5⟩ := h.pair (f := .eq fs n) rfl ha
    refine h.put (f := .eq fs n) rfl ha (p := { pairOf s.2 fs with eq := some n }) h1 ?_ (h2.congr (fun m => by simp)) (h3.congr (fun m => by simp)) (fun m hm => by
      injection hm with hm
      rw [hm]
      exact List.mem_append_right _ (List.mem_singleton.2 rfl)) (fun m hm e => by cases e)
    rw [Bool.and_eq_true, h.ok, decide_eq_true_iff]
    constructor
    · rintro ⟨hF, hc⟩
      have hone : ∀ m, Fact.eq fs m ∈ F → m = n := fun m hm => by
        rcases hc with hc | hc
        · exact absurd hc (h5 m hm)
        · exact hF.2 fs m n hm (h4 n hc)
      refine ⟨fun g hg => ?_, fun gs a b h6 h7 => ?_⟩
      · rcases List.mem_append.1 hg with hg | hg
        · exact hF.1 g hg
        · rw [List.mem_singleton.1 hg]
          simp
      · rcases List.mem_append.1 h6 with h6 | h6
        · rcases List.mem_append.1 h7 with h7 | h7
          · exact hF.2 gs a b h6 h7
          · rw [List.mem_singleton] at h7
            injection h7 with e1 e2
            rw [e1] at h6
            rw [e2]
            exact hone a h6
        · rw [List.mem_singleton] at h6
          injection h6 with e1 e2
          rw [e1] at h7
          rcases List.mem_append.1 h7 with h7 | h7
          · rw [e2]
            exact (hone b h7).symm
          · rw [List.mem_singleton] at h7
            injection h7 with _ e3
            rw [e2, e3]
    · intro hF
      refine ⟨⟨fun g hg => hF.1 g (List.mem_append_left _ hg), fun gs a b h6 h7 => hF.2 gs a b (List.mem_append_left _ h6) (List.mem_append_left _ h7)⟩, ?_⟩
      cases e : (pairOf s.2 fs).eq with
      | none => exact .inl rfl
      | some m =>
        have := hF.2 fs m n (List.mem_append_left _ (h4 m e)) (List.mem_append_right _ (List.mem_singleton.2 rfl))
        rw [this]
        exact .inr rfl
theorem told_all : ∀ (F G : List Fact) (s : Bool × List (Key × Pr)), Told F s → Apart (F ++ G) → Told (F ++ G) (G.foldl learnF s)
  | F, [], s, h, _ => by simpa using h
  | F, f :: G, s, h, ha => by
    have e : F ++ f :: G = (F ++ [f]) ++ G := by simp
    rw [e] at ha ⊢
    exact told_all (F ++ [f]) G _ (h.next f (ha.sub fun g hg => List.mem_append_left _ hg)) ha
theorem Told.same {F G : List Fact} {s t : Bool × List (Key × Pr)} (h : Told F s) (k : Told G t) (ha : Apart F) (hm : ∀ f, f ∈ F ↔ f ∈ G) : s.1 = t.1 ∧ (s.1 = true → s.2 = t.2) := by
  have hfine : Fine F ↔ Fine G := by
    constructor
    · exact fun x => ⟨fun f hf => x.1 f ((hm f).2 hf), fun fs n m a b => x.2 fs n m ((hm _).2 a) ((hm _).2 b)⟩
    · exact fun x => ⟨fun f hf => x.1 f ((hm f).1 hf), fun fs n m a b => x.2 fs n m ((hm _).1 a) ((hm _).1 b)⟩
  have e1 : s.1 = t.1 := by
    rw [Bool.eq_iff_iff, h.ok, k.ok, hfine]
  refine ⟨e1, fun hs => rise_ext h.rise k.rise (fun x => ?_)⟩
  have hF := h.ok.1 hs
  have one : ∀ p q, lookM s.2 x = some p → lookM t.2 x = some q → p = q := fun p q hp hq => by
    obtain ⟨a1, f, hf, a2⟩ := h.key x p hp
    obtain ⟨b1, g, hg, b2⟩ := k.key x q hq
    have e : p.fs = q.fs := ha f hf g ((hm g).2 hg) _ _ a2 b2 (a1.trans b1.symm)
    have eu : p.up = q.up := (h.up x p hp).uniq ((k.up x q hq).congr (fun m => by rw [e, hm]))
    have el : p.lo = q.lo := (h.lo x p hp).uniq ((k.lo x q hq).congr (fun m => by rw [e, hm]))
    have ee : p.eq = q.eq := by
      cases ep : p.eq with
      | none =>
        cases eq : q.eq with
        | none => rfl
        | some n =>
          have h1 := k.eq0 x q hq n eq
          rw [← e, ← hm] at h1
          exact absurd ep (h.eq1 x p hp n h1)
      | some n =>
        have h1 := h.eq0 x p hp n ep
        cases eq : q.eq with
        | none =>
          have h2 := h1
          rw [hm, e] at h2
          exact absurd eq (k.eq1 x q hq n h2)
        | some m =>
          have h2 := k.eq0 x q hq m eq
          rw [← e, ← hm] at h2
          rw [hF.2 _ n m h1 h2]
    obtain ⟨p1, p2, p3, p4⟩ := p
    obtain ⟨q1, q2, q3, q4⟩ := q
    dsimp only at e eu el ee
    subst e eu el ee
    rfl
  cases e : lookM s.2 x with
  | some p =>
    obtain ⟨a1, f, hf, a2⟩ := h.key x p e
    obtain ⟨q, hq⟩ := k.there f ((hm f).1 hf) _ a2
    rw [a1] at hq
    rw [hq, one p q e hq]
  | none =>
    cases e' : lookM t.2 x with
    | none => rfl
    | some q =>
      obtain ⟨b1, g, hg, b2⟩ := k.key x q e'
      obtain ⟨p, hp⟩ := h.there g ((hm g).2 hg) _ b2
      rw [b1, e] at hp
      cases hp
end
section
set_option linter.unusedVariables false
open Go.RowKit
theorem u8_digit {d : Nat} (h : d < 10) : (UInt8.ofNat (48 + d)).toNat = 48 + d := by
  rw [UInt8.toNat_ofNat']
  omega
theorem digits_inj : ∀ {l k : List Nat}, Below_ 10 l → Below_ 10 k → (l.map fun d => UInt8.ofNat (48 + d)) = (k.map fun d => UInt8.ofNat (48 + d)) → l = k
  | [], [], _, _, _ => rfl
  | [], _ :: _, _, _, h => by simp at h
  | _ :: _, [], _, _, h => by simp at h
  | x :: l, y :: k, hl, hk, h => by
    simp only [List.map_cons, List.cons.injEq] at h
    have h1 := u8_digit (hl x (by simp))
    have h2 := u8_digit (hk y (by simp))
    rw [h.1] at h1
    have e : x = y := by omega
    rw [e, digits_inj (fun z hz => hl z (by simp [hz])) (fun z hz => hk z (by simp [hz])) h.2]
theorem ztext_bytes (z : Int) : ∀ b ∈ ztext z, b ≠ 42 ∧ b ≠ 43 := by
  intro b hb
  unfold ztext at hb
  split at hb
  · rw [List.mem_singleton] at hb
    subst hb
    decide
  · rcases List.mem_append.1 hb with hb | hb
    · split at hb
      · rw [List.mem_singleton] at hb
        subst hb
        decide
      · cases hb
    · obtain ⟨d, hd, rfl⟩ := List.mem_map.1 hb
      have h1 := u8_digit (digs_lt _ d (List.mem_reverse.1 hd))
      constructor
      · intro e
        rw [e] at h1
        have : (42 : UInt8).toNat = 42 := rfl
        omega
      · intro e
        rw [e] at h1
        have : (43 : UInt8).toNat = 43 := rfl
        omega
theorem digs_ne {n : Nat} (h : n ≠ 0) : digs n ≠ [] := by
  rw [digs_pos h]
  simp
theorem digs_head (n : Nat) : ∀ t, ((digs n).reverse.map fun d => UInt8.ofNat (48 + d)) ≠ 45 :: t := by
  intro t h
  have hm : (45 : UInt8) ∈ ((digs n).reverse.map fun d => UInt8.ofNat (48 + d)) := by rw [h]; simp
  obtain ⟨d, hd, e⟩ := List.mem_map.1 hm
  have h1 := u8_digit (digs_lt _ d (List.mem_reverse.1 hd))
  rw [e] at h1
  have : (45 : UInt8).toNat = 45 := rfl
  omega
theorem digs_inj {n m : Nat} (h : digs n = digs m) : n = m := by
  rw [← digs_val n, ← digs_val m, h]
theorem ztext_inj {x y : Int} (h : ztext x = ztext y) : x = y := by
  have dig : ∀ {n m : Nat}, ((digs n).reverse.map fun d => UInt8.ofNat (48 + d)) = ((digs m).reverse.map fun d => UInt8.ofNat (48 + d)) → n = m := fun {n m} e => by
    have := digits_inj (fun z hz => digs_lt n z (List.mem_reverse.1 hz)) (fun z hz => digs_lt m z (List.mem_reverse.1 hz)) e
    exact digs_inj (List.reverse_inj.1 this)
  have nz : ∀ {z : Int}, z ≠ 0 → ((digs z.natAbs).reverse.map fun d => UInt8.ofNat (48 + d)) ≠ [48] := fun {z} hz e => by
    have e2 : ((digs z.natAbs).reverse.map fun d => UInt8.ofNat (48 + d)) = ([0].map fun d => UInt8.ofNat (48 + d)) := e
    have := digits_inj (fun z hz => digs_lt _ z (List.mem_reverse.1 hz)) (fun z hz => by rw [List.mem_singleton] at hz; omega) e2
    have e3 : digs z.natAbs = [0] := by rw [← List.reverse_reverse (digs z.natAbs), this]; rfl
    have e4 := digs_val z.natAbs
    rw [e3] at e4
    have : pval 10 [0] = 0 := rfl
    omega
  unfold ztext at h
  by_cases hx : x = 0
  · by_cases hy : y = 0
    · rw [hx, hy]
    · rw [if_pos hx, if_neg hy] at h
      by_cases sy : y < 0
      · rw [if_pos sy] at h
        simp at h
      · rw [if_neg sy] at h
        exact absurd h.symm (nz hy)
  · by_cases hy : y = 0
    · rw [if_neg hx, if_pos hy] at h
      by_cases sx : x < 0
      · rw [if_pos sx] at h
        simp at h
      · rw [if_neg sx] at h
        exact absurd h (nz hx)
    · rw [if_neg hx, if_neg hy] at h
      by_cases sx : x < 0
      · by_cases sy : y < 0
        · rw [if_pos sx, if_pos sy] at h
          have := dig (List.append_cancel_left h)
          omega
        · rw [if_pos sx, if_neg sy] at h
          exact absurd h.symm (digs_head _ _)
      · by_cases sy : y < 0
        · rw [if_neg sx, if_pos sy] at h
          exact absurd h (digs_head _ _)
        · rw [if_neg sx, if_neg sy] at h
          have := dig (List.append_cancel_left h)
          omega
theorem first_cut {c : UInt8} : ∀ {a b x y : List UInt8}, (∀ u ∈ a, u ≠ c) → (∀ u ∈ b, u ≠ c) → a ++ c :: x = b ++ c :: y → a = b ∧ x = y
  | [], [], x, y, _, _, h => ⟨rfl, by simpa using h⟩
  | [], v :: b, x, y, _, hb, h => by
    simp only [List.nil_append, List.cons_append, List.cons.injEq] at h
    exact absurd h.1.symm (hb v (by simp))
  | u :: a, [], x, y, ha, _, h => by
    simp only [List.nil_append, List.cons_append, List.cons.injEq] at h
    exact absurd h.1 (ha u (by simp))
  | u :: a, v :: b, x, y, ha, hb, h => by
    simp only [List.cons_append, List.cons.injEq] at h
    obtain ⟨e1, e2⟩ := first_cut (fun z hz => ha z (by simp [hz])) (fun z hz => hb z (by simp [hz])) h.2
    exact ⟨by rw [h.1, e1], e2⟩
def Plain (fs : List (Key × Int)) : Prop := ∀ f ∈ fs, ∀ u ∈ f.1, u ≠ 43
theorem ttext_inj : ∀ {a b : List (Key × Int)} {r s : Int}, Plain a → Plain b → ttext r a = ttext s b → a = b ∧ r = s
  | [], [], r, s, _, _, h => ⟨rfl, ztext_inj (by simpa [ttext] using h)⟩
  | [], g :: b, r, s, _, _, h => by
    exfalso
    have hm : (42 : UInt8) ∈ ttext s (g :: b) := by simp [ttext]
    rw [← h] at hm
    exact (ztext_bytes r 42 (by simpa [ttext] using hm)).1 rfl
  | f :: a, [], r, s, _, _, h => by
    exfalso
    have hm : (42 : UInt8) ∈ ttext r (f :: a) := by simp [ttext]
    rw [h] at hm
    exact (ztext_bytes s 42 (by simpa [ttext] using hm)).1 rfl
  | f :: a, g :: b, r, s, ha, hb, h => by
    have e : ∀ (f : Key × Int) (a : List (Key × Int)) (r : Int), ttext r (f :: a) = ztext f.2 ++ 42 :: (f.1 ++ 43 :: ttext r a) := fun f a r => by simp [ttext]
    rw [e, e] at h
    obtain ⟨h1, h2⟩ := first_cut (fun u hu => (ztext_bytes _ u hu).1) (fun u hu => (ztext_bytes _ u hu).1) h
    obtain ⟨h3, h4⟩ := first_cut (ha f (by simp)) (hb g (by simp)) h2
    obtain ⟨h5, h6⟩ := ttext_inj (fun z hz => ha z (by simp [hz])) (fun z hz => hb z (by simp [hz])) h4
    refine ⟨?_, h6⟩
    rw [h5, show f = g from Prod.ext h3 (ztext_inj h1)]
theorem map_plain {fs : List (Key × Int)} (h : Plain fs) (f : Key × Int → Int) : Plain (fs.map fun q => (q.1, f q)) := by
  intro g hg
  obtain ⟨q, hq, rfl⟩ := List.mem_map.1 hg
  exact h q hq
theorem factOf_plain {r : RowM} (h : Plain r.fs) {fs : List (Key × Int)} (he : (factOf r).of = some fs) : Plain fs := by
  unfold factOf at he
  split at he
  · split at he <;> cases he
  · split at he
    · split at he
      · injection he with he
        rw [← he]
        exact map_plain h _
      · cases he
    · split at he
      · injection he with he
        rw [← he]
        exact map_plain (map_plain h _) _
      · injection he with he
        rw [← he]
        exact map_plain h _
theorem facts_apart {l : List RowM} (h : ∀ r ∈ l, Plain r.fs) : Apart (l.map factOf) := by
  intro f hf g hg a b ha hb e
  obtain ⟨r, hr, rfl⟩ := List.mem_map.1 hf
  obtain ⟨s, hs, rfl⟩ := List.mem_map.1 hg
  exact (ttext_inj (factOf_plain (h r hr) ha) (factOf_plain (h s hs) hb) e).1
def learnAll (l : List RowM) : Bool × List (Key × Pr) := l.foldl learnM (true, [])
theorem learnAll_told {l : List RowM} (h : ∀ r ∈ l, Plain r.fs) : Told (l.map factOf) (learnAll l) := by
  have h1 := told_all [] (l.map factOf) (true, []) told_nil (by simpa using facts_apart h)
  rw [List.foldl_map, List.nil_append] at h1
  exact h1
theorem learnAll_same {l k : List RowM} (h : ∀ r ∈ l, Plain r.fs) (hm : ∀ r, r ∈ l ↔ r ∈ k) : (learnAll l).1 = (learnAll k).1 ∧ ((learnAll l).1 = true → (learnAll l).2 = (learnAll k).2) := by
  refine (learnAll_told h).same (learnAll_told (fun r hr => h r ((hm r).2 hr))) (facts_apart h) (fun f => ?_)
  rw [List.mem_map, List.mem_map]
  constructor
  · rintro ⟨r, hr, e⟩
    exact ⟨r, (hm r).1 hr, e⟩
  · rintro ⟨r, hr, e⟩
    exact ⟨r, (hm r).2 hr, e⟩
end
section
set_option linter.unusedVariables false
open Go.RowKit
def orderM (a b : RowM) : Int :=
  if ttext a.rest a.fs = ttext b.rest b.fs then (if a.eq = b.eq then 0 else if a.eq then -1 else 1)
  else if ttext a.rest a.fs < ttext b.rest b.fs then -1 else 1
def lookR (a : RowM) : Key × Bool := (ttext a.rest a.fs, a.eq)
theorem orderM_zero {a b : RowM} : orderM a b = 0 ↔ lookR a = lookR b := by
  unfold orderM lookR
  rw [Prod.mk.injEq]
  by_cases h : ttext a.rest a.fs = ttext b.rest b.fs
  · rw [if_pos h]
    by_cases e : a.eq = b.eq
    · rw [if_pos e]
      exact ⟨fun _ => ⟨h, e⟩, fun _ => rfl⟩
    · rw [if_neg e]
      constructor
      · intro x
        split at x <;> omega
      · exact fun x => absurd x.2 e
  · rw [if_neg h]
    constructor
    · intro x
      split at x <;> omega
    · exact fun x => absurd x.1 h
def befR (a b : RowM) : Prop := orderM a b < 0
theorem befR_iff {a b : RowM} : befR a b ↔ (lookR a).1 < (lookR b).1 ∨ ((lookR a).1 = (lookR b).1 ∧ a.eq = true ∧ b.eq = false) := by
  unfold befR orderM lookR
  dsimp only
  by_cases h : ttext a.rest a.fs = ttext b.rest b.fs
  · rw [if_pos h, h]
    cases a.eq <;> cases b.eq <;> simp [kirr]
  · rw [if_neg h]
    by_cases k : ttext a.rest a.fs < ttext b.rest b.fs
    · simp [k, h]
    · simp [k, h]
theorem befR_irr (a : RowM) : ¬ befR a a := by
  rw [befR_iff]
  rintro (h | ⟨_, h1, h2⟩)
  · exact kirr _ h
  · rw [h1] at h2
    cases h2
theorem befR_trans {a b c : RowM} (h : befR a b) (k : befR b c) : befR a c := by
  rw [befR_iff] at *
  rcases h with h | ⟨h, h1, h2⟩
  · rcases k with k | ⟨k, k1, k2⟩
    · exact .inl (ktrans h k)
    · rw [k] at h
      exact .inl h
  · rcases k with k | ⟨k, k1, k2⟩
    · rw [← h] at k
      exact .inl k
    · rw [k1] at h2
      cases h2
theorem befR_case (a b : RowM) : befR a b ∨ lookR a = lookR b ∨ befR b a := by
  rcases kcase (lookR a).1 (lookR b).1 with h | h | h
  · exact .inl (befR_iff.2 (.inl h))
  · by_cases e : a.eq = b.eq
    · exact .inr (.inl (Prod.ext h e))
    · cases ea : a.eq with
      | true =>
        cases eb : b.eq with
        | true => rw [ea, eb] at e; exact absurd rfl e
        | false => exact .inl (befR_iff.2 (.inr ⟨h, ea, eb⟩))
      | false =>
        cases eb : b.eq with
        | false => rw [ea, eb] at e; exact absurd rfl e
        | true => exact .inr (.inr (befR_iff.2 (.inr ⟨h.symm, eb, ea⟩)))
  · exact .inr (.inr (befR_iff.2 (.inl h)))
def SortedR (l : List RowM) : Prop := l.Pairwise fun a b => ¬ befR b a
theorem befR_look {a a' b b' : RowM} (ha : lookR a = lookR a') (hb : lookR b = lookR b') (h : befR a b) : befR a' b' := by
  have e1 : a.eq = a'.eq := congrArg (·.2) ha
  have e2 : b.eq = b'.eq := congrArg (·.2) hb
  rw [befR_iff] at *
  rw [← ha, ← hb, ← e1, ← e2]
  exact h
theorem not_bef {a b c : RowM} (h : ¬ befR b a) (k : ¬ befR c b) : ¬ befR c a := fun x => by
  rcases befR_case b c with c1 | c1 | c1
  · exact h (befR_trans c1 x)
  · exact h (befR_look c1.symm rfl x)
  · exact k c1
theorem sorted_look {l k : List RowM} (hp : l.Perm k) (hl : SortedR l) (hk : SortedR k) : l.map lookR = k.map lookR := by
  have hp2 : (l.map lookR).Perm (k.map lookR) := hp.map _
  let le : Key × Bool → Key × Bool → Prop := fun x y => ¬ (y.1 < x.1 ∨ (y.1 = x.1 ∧ y.2 = true ∧ x.2 = false))
  have key : ∀ {m : List RowM}, SortedR m → (m.map lookR).Pairwise le := fun {m} hm => List.pairwise_map.2 (hm.imp fun {a b} h x => h (befR_iff.2 x))
  refine hp2.eq_of_pairwise (le := le) (fun x y _ _ h1 h2 => ?_) (key hl) (key hk)
  rcases kcase x.1 y.1 with c | c | c
  · exact absurd (.inl c) h2
  · refine Prod.ext c ?_
    cases ex : x.2 <;> cases ey : y.2
    · rfl
    · exact absurd (.inr ⟨c.symm, ey, ex⟩) h1
    · exact absurd (.inr ⟨c, ex, ey⟩) h2
    · rfl
  · exact absurd (.inl c) h1
def allRows (ps : List (Key × Pr)) : List RowM := ps.flatMap fun e => (rowsM e.2).1
def allOk (ps : List (Key × Pr)) : Bool := ps.all fun e => (rowsM e.2).2
def worth (v : Key → Int) : List (Key × Int) → Int
  | [] => 0
  | f :: fs => f.2 * v f.1 + worth v fs
theorem worth_append (v : Key → Int) : ∀ (a b : List (Key × Int)), worth v (a ++ b) = worth v a + worth v b
  | [], b => by simp [worth]
  | f :: a, b => by
    rw [List.cons_append, worth, worth, worth_append v a b]
    omega
theorem split_at {l : List (Key × Int)} (hr : Rise l) {k : Key} {u : Int} (hu : l[place l k]? = some (k, u)) : l = l.take (place l k) ++ (k, u) :: l.drop (place l k + 1) := by
  obtain ⟨h1, h2⟩ := List.getElem?_eq_some_iff.1 hu
  rw [← h2, List.getElem_cons_drop, List.take_append_drop]
theorem worth_put (v : Key → Int) {l : List (Key × Int)} (hr : Rise l) (k : Key) (z : Int) : worth v (putM l k z) = worth v l + (z - factor l k) * v k := by
  unfold putM factor
  split
  · rename_i h
    obtain ⟨u, hu⟩ := (there_iff hr k).1 h
    have e := congrArg (worth v) (split_at hr hu)
    rw [worth_append, worth] at e
    rw [worth_append, worth, e, hu]
    show _ = _ + (z - u) * v k
    rw [Int.sub_mul]
    dsimp only
    omega
  · rename_i h
    have e : worth v l = worth v (l.take (place l k)) + worth v (l.drop (place l k)) := by rw [← worth_append, List.take_append_drop]
    rw [worth_append, worth, e, Int.sub_zero]
    dsimp only
    omega
theorem worth_drop (v : Key → Int) {l : List (Key × Int)} (hr : Rise l) (k : Key) : worth v (dropM l k) = worth v l - factor l k * v k := by
  unfold dropM factor
  split
  · rename_i h
    obtain ⟨u, hu⟩ := (there_iff hr k).1 h
    have e := congrArg (worth v) (split_at hr hu)
    rw [worth_append, worth] at e
    rw [worth_append, e, hu]
    show _ = _ - u * v k
    dsimp only
    omega
  · rw [Int.zero_mul, Int.sub_zero]
theorem worth_step (v : Key → Int) {n : Int} {acc : List (Key × Int)} (hr : Rise acc) (g : Key × Int) : worth v (addStep n acc g) = worth v acc + n * (g.2 * v g.1) := by
  unfold addStep
  split
  · rename_i h
    rw [worth_drop v hr]
    have : factor acc g.1 = -(g.2 * n) := by omega
    rw [this, Int.neg_mul, Int.mul_comm g.2 n, Int.mul_assoc]
    omega
  · rw [worth_put v hr]
    have : factor acc g.1 + g.2 * n - factor acc g.1 = n * g.2 := by rw [Int.mul_comm n]; omega
    rw [this, Int.mul_assoc]
theorem worth_add (v : Key → Int) {n : Int} : ∀ (gs fs : List (Key × Int)), Rise fs → worth v (addM fs gs n) = worth v fs + n * worth v gs
  | [], fs, _ => by simp [addM, worth]
  | g :: gs, fs, hr => by
    show worth v (addM (addStep n fs g) gs n) = _
    rw [worth_add v gs _ (addStep_rise hr), worth_step v hr, worth, Int.mul_add]
    omega
theorem worth_congr {v u : Key → Int} : ∀ {fs : List (Key × Int)}, (∀ f ∈ fs, v f.1 = u f.1) → worth v fs = worth u fs
  | [], _ => rfl
  | f :: fs, h => by
    rw [worth, worth, h f (by simp), worth_congr (fun g hg => h g (by simp [hg]))]
def putT (fs : List (Key × Int)) (k : Key) (gs : List (Key × Int)) : List (Key × Int) := addM (addM fs [(k, 1)] (-(factor fs k))) gs (factor fs k)
theorem putT_worth {v : Key → Int} {fs gs : List (Key × Int)} (hr : Rise fs) (k : Key) (r x : Int) {u : Key → Int} (hx : x = r + worth v gs) (hu : ∀ j, u j = if j = k then x else v j) :
    factor fs k * r + worth v (putT fs k gs) = worth u fs := by
  have h1 : worth v (putT fs k gs) = worth v fs + -(factor fs k) * (1 * v k + 0) + factor fs k * worth v gs := by
    unfold putT
    rw [worth_add v _ _ (addM_rise _ _ hr), worth_add v _ _ hr]
    rfl
  have h2 : ∀ (l : List (Key × Int)), Rise l → worth u l = worth v l + factor l k * (x - v k) := fun l hl => by
    induction l with
    | nil => simp [worth, factor, there]
    | cons f l ih =>
      have hl' := List.pairwise_cons.1 hl
      rw [worth, worth, ih hl'.2, hu]
      by_cases c : f.1 = k
      · have e1 : factor (f :: l) k = f.2 := factor_mem hl (by rw [← c]; exact List.mem_cons_self ..)
        have e2 : factor l k = 0 := factor_not hl'.2 (fun g hg e => by
          have := hl'.1 g hg
          rw [e, c] at this
          exact kirr _ this)
        rw [if_pos c, e1, e2, c, Int.zero_mul, Int.mul_sub]
        omega
      · have e1 : factor (f :: l) k = factor l k := by
          have := addM_factor (n := 1) [] (f :: l) hl List.Pairwise.nil k
          cases e : lookM l k with
          | some u' =>
            have hu' := (look_some hl'.2).1 e
            rw [factor_mem hl'.2 hu']
            exact factor_mem hl (List.mem_cons_of_mem _ hu')
          | none =>
            rw [factor_look l, e]
            refine factor_not hl (fun g hg e2 => ?_)
            rcases List.mem_cons.1 hg with h3 | h3
            · rw [h3] at e2
              exact c e2
            · have h4 := (look_some hl'.2 (k := k) (v := g.2)).2 (by rw [← e2]; exact h3)
              rw [e] at h4
              cases h4
        rw [if_neg c, e1]
        omega
  rw [h1, h2 fs hr, hx, Int.one_mul, Int.add_zero, Int.mul_sub, Int.mul_add, Int.neg_mul]
  omega
theorem putT_names {fs gs : List (Key × Int)} (hr : Rise fs) (hz : NZ fs) (hg : Rise gs) (k : Key) : ∀ f ∈ putT fs k gs, (f.1 ≠ k ∧ ∃ z, (f.1, z) ∈ fs) ∨ ∃ z, (f.1, z) ∈ gs := by
  intro f hf
  have r1 := addM_rise (n := -(factor fs k)) [(k, 1)] fs hr
  have z1 := addM_nz (n := -(factor fs k)) [(k, 1)] fs hr hz
  have r2 := addM_rise (n := factor fs k) gs _ r1
  have z2 := addM_nz (n := factor fs k) gs _ r1 z1
  have hne := z2 f hf
  have hfac : factor (putT fs k gs) f.1 = f.2 := factor_mem r2 hf
  have e2 := addM_factor (n := factor fs k) gs _ r1 hg f.1
  have e1 := addM_factor (n := -(factor fs k)) [(k, 1)] fs hr (List.pairwise_singleton _ _) f.1
  by_cases c : ∃ z, (f.1, z) ∈ gs
  · exact .inr c
  · left
    have e3 : factor gs f.1 = 0 := factor_not hg (fun g hg2 e => c ⟨g.2, by rw [← e]; exact hg2⟩)
    unfold putT at hfac
    rw [hfac, e1, e3, Int.zero_mul, Int.add_zero] at e2
    have hk : f.1 ≠ k := fun e => by
      rw [e, factor_mem (fs := [(k, (1 : Int))]) (List.pairwise_singleton _ _) (List.mem_singleton.2 rfl)] at e2
      omega
    refine ⟨hk, ?_⟩
    have e4 : factor [(k, (1 : Int))] f.1 = 0 := factor_not (List.pairwise_singleton _ _) (fun g hg2 e => by
      rw [List.mem_singleton] at hg2
      rw [hg2] at e
      exact hk e.symm)
    rw [e4, Int.zero_mul, Int.add_zero] at e2
    cases e5 : lookM fs f.1 with
    | some z => exact ⟨z, (look_some hr).1 e5⟩
    | none =>
      rw [factor_look, e5] at e2
      exact absurd e2 hne
end
section
set_option linter.unusedVariables false
open Go.RowKit
section
variable {P : Type} {vc : P → List Value} {s : Nat}
def cat (vc : P → List Value) (l : List P) : List Value := l.flatMap vc
theorem cat_cons (q : P) (l : List P) : cat vc (q :: l) = vc q ++ cat vc l := rfl
theorem cat_append (l l' : List P) : cat vc (l ++ l') = cat vc l ++ cat vc l' := by simp [cat]
theorem cat_len (hvc : ∀ p, (vc p).length = s) : ∀ (l : List P), (cat vc l).length = l.length * s
  | [] => by simp [cat]
  | q :: l => by rw [cat_cons, List.length_append, cat_len hvc l, List.length_cons, hvc, Nat.succ_mul, Nat.add_comm]
theorem cat_get (hvc : ∀ p, (vc p).length = s) : ∀ {l : List P} {j : Nat} {q : P}, l[j]? = some q → ∀ t, t < s → (cat vc l)[j * s + t]? = (vc q)[t]?
  | [], j, q, h, t, ht => by simp at h
  | p :: l, 0, q, h, t, ht => by
    simp at h
    subst h
    rw [cat_cons, Nat.zero_mul, Nat.zero_add, List.getElem?_append_left (by rw [hvc]; exact ht)]
  | p :: l, j + 1, q, h, t, ht => by
    have := cat_get hvc (l := l) (j := j) (q := q) (by simpa using h) t ht
    rw [cat_cons, List.getElem?_append_right (by rw [hvc, Nat.succ_mul]; omega), hvc, ← this, Nat.succ_mul]
    congr 1
    omega
theorem cat_drop (hvc : ∀ p, (vc p).length = s) : ∀ (l : List P) (i : Nat), cat vc (l.drop i) = (cat vc l).drop (i * s)
  | [], i => by simp [cat]
  | q :: l, 0 => by simp [cat]
  | q :: l, i + 1 => by
    rw [List.drop_succ_cons, cat_cons, cat_drop hvc l i, Nat.succ_mul, Nat.add_comm (i * s), ← hvc q, List.drop_length_add_append]
theorem Sl.clen {w : World} {A : Option Addr} {n c : Nat} {l : List P} (hvc : ∀ p, (vc p).length = s) (hs : 0 < s) (h : Sl w s A n c (cat vc l)) : l.length = n := by
  have h1 := h.1
  rw [cat_len hvc] at h1
  exact Nat.eq_of_mul_eq_mul_right hs h1
theorem cat_at {w : World} {A : Option Addr} {n c : Nat} {l : List P} (hvc : ∀ p, (vc p).length = s) (hs : 0 < s) (h : Sl w s A n c (cat vc l)) {j : Nat} {q : P} (hj : l[j]? = some q) :
    ∃ b off, A = some ⟨b, off, none⟩ ∧ b < w.heap.size ∧ ∀ t u, (vc q)[t]? = some u → w.cell? ⟨b, off + j * s + t, none⟩ = some u := by
  have hl := h.clen hvc hs
  have hj' := (List.getElem?_eq_some_iff.1 hj).1
  obtain ⟨b, off, rfl, hb, hc⟩ := h.2.2 (by omega)
  refine ⟨b, off, rfl, hb, fun t u hu => ?_⟩
  have ht := (List.getElem?_eq_some_iff.1 hu).1
  rw [hvc] at ht
  have h2 := cat_get hvc hj t ht
  rw [hu] at h2
  have := hc _ _ h2
  rwa [← Nat.add_assoc] at this
end
structure RawR where
  g : Bool
  A : Option Addr
  n : Nat
  c : Nat
  m : Option Addr
  eq : Bool
def RawR.cells (q : RawR) : List Value := [.bool q.g, .slice q.A q.n q.c, .pointer q.m, .bool q.eq]
def RawR.term (q : RawR) : Value := .agg #[.bool q.g, .slice q.A q.n q.c, .pointer q.m]
def RawR.val (q : RawR) : Value := .agg #[.bool q.g, .slice q.A q.n q.c, .pointer q.m, .bool q.eq]
theorem RawR.cells_len (q : RawR) : q.cells.length = 4 := rfl
theorem RawR.cells_one (q : RawR) : ∀ u ∈ q.cells, u.oneCell' = true := by
  intro u hu
  simp [RawR.cells] at hu
  rcases hu with rfl | rfl | rfl | rfl <;> rfl
def RowIs (w : World) (q : RawR) (r : RowM) : Prop := q.eq = r.eq ∧ TM w q.term r.rest r.fs
theorem RowIs.pu {w w' : World} {q : RawR} {r : RowM} (h : RowIs w q r) (p : Pu w w') : RowIs w' q r := ⟨h.1, h.2.pu p⟩
def HoldR (w : World) (L : List RawR) (l : List RowM) : Prop := L.length = l.length ∧ ∀ (i : Nat) (q : RawR) (r : RowM), L[i]? = some q → l[i]? = some r → RowIs w q r
theorem HoldR.pu {w w' : World} {L : List RawR} {l : List RowM} (h : HoldR w L l) (p : Pu w w') : HoldR w' L l := ⟨h.1, fun i q r hq hr => (h.2 i q r hq hr).pu p⟩
theorem HoldR.nil (w : World) : HoldR w [] [] := ⟨rfl, fun i q r h => by simp at h⟩
theorem HoldR.append {w : World} {L L' : List RawR} {l l' : List RowM} (h : HoldR w L l) (h' : HoldR w L' l') : HoldR w (L ++ L') (l ++ l') := by
  refine ⟨by simp [h.1, h'.1], fun j p f h1 h2 => ?_⟩
  rcases Nat.lt_or_ge j L.length with hj | hj
  · rw [List.getElem?_append_left hj] at h1
    rw [List.getElem?_append_left (by rw [← h.1]; exact hj)] at h2
    exact h.2 j p f h1 h2
  · rw [List.getElem?_append_right hj] at h1
    rw [List.getElem?_append_right (by rw [← h.1]; exact hj), ← h.1] at h2
    exact h'.2 _ p f h1 h2
theorem HoldR.one {w : World} {q : RawR} {r : RowM} (h : RowIs w q r) : HoldR w [q] [r] := by
  refine ⟨rfl, fun i q' r' h1 h2 => ?_⟩
  cases i with
  | zero =>
    simp at h1 h2
    subst h1 h2
    exact h
  | succ i => simp at h1
theorem HoldR.drop {w : World} {L : List RawR} {l : List RowM} (h : HoldR w L l) (i : Nat) : HoldR w (L.drop i) (l.drop i) := by
  refine ⟨by simp [h.1], fun j p f h1 h2 => ?_⟩
  rw [List.getElem?_drop] at h1 h2
  exact h.2 _ p f h1 h2
theorem HoldR.at_ {w : World} {L : List RawR} {l : List RowM} (h : HoldR w L l) {i : Nat} {q : RawR} (hq : L[i]? = some q) : ∃ r, l[i]? = some r ∧ RowIs w q r := by
  have hlt := (List.getElem?_eq_some_iff.1 hq).1
  have hr : l[i]? = some (l[i]'(by rw [← h.1]; exact hlt)) := List.getElem?_eq_getElem (by rw [← h.1]; exact hlt)
  exact ⟨_, hr, h.2 i q _ hq hr⟩
abbrev SlR (w : World) (A : Option Addr) (n c : Nat) (L : List RawR) : Prop := Sl w 4 A n c (cat RawR.cells L)
theorem SlR.at_ {w : World} {A : Option Addr} {n c : Nat} {L : List RawR} (h : SlR w A n c L) {j : Nat} {q : RawR} (hj : L[j]? = some q) :
    ∃ b off, A = some ⟨b, off, none⟩ ∧ b < w.heap.size ∧ w.cell? ⟨b, off + j * 4, none⟩ = some (.bool q.g) ∧ w.cell? ⟨b, off + j * 4 + 1, none⟩ = some (.slice q.A q.n q.c) ∧ w.cell? ⟨b, off + j * 4 + 2, none⟩ = some (.pointer q.m) ∧ w.cell? ⟨b, off + j * 4 + 3, none⟩ = some (.bool q.eq) := by
  obtain ⟨b, off, rfl, hb, hc⟩ := cat_at RawR.cells_len (by decide) h hj
  exact ⟨b, off, rfl, hb, hc 0 _ rfl, hc 1 _ rfl, hc 2 _ rfl, hc 3 _ rfl⟩
theorem SlR.len {w : World} {A : Option Addr} {n c : Nat} {L : List RawR} (h : SlR w A n c L) : L.length = n := Sl.clen RawR.cells_len (by decide) h
theorem eiRow : ElemI Tryz.prog 24 35 (.agg #[.bool false, .slice none 0 0, .pointer none, .bool false]) 4 48 := ⟨Tryz.underlying24, by kernel_rfl, rfl, by decide⟩
end
section
set_option linter.unusedVariables false
open Go.RowKit
def RowO (w : World) (base : Nat) (q : RawR) (r : RowM) : Prop := q.eq = r.eq ∧ TMO w base q.term r.rest r.fs
theorem RowO.is {w : World} {base : Nat} {q : RawR} {r : RowM} (h : RowO w base q r) : RowIs w q r := ⟨h.1, h.2.tm⟩
theorem RowO.qf {w w' : World} {base base' : Nat} {q : RawR} {r : RowM} (h : RowO w base' q r) (k : Qf base w w') : RowO w' base' q r := ⟨h.1, h.2.qf k⟩
theorem RowO.pu {w w' : World} {base' : Nat} {q : RawR} {r : RowM} (h : RowO w base' q r) (k : Pu w w') : RowO w' base' q r := ⟨h.1, h.2.pu k⟩
theorem RowO.base_ {w : World} {base base' : Nat} {q : RawR} {r : RowM} (h : RowO w base q r) (hb : base' ≤ base) : RowO w base' q r := ⟨h.1, h.2.base_ hb⟩
def HoldO (w : World) (base : Nat) (L : List RawR) (l : List RowM) : Prop := L.length = l.length ∧ ∀ (i : Nat) (q : RawR) (r : RowM), L[i]? = some q → l[i]? = some r → RowO w base q r
section
variable {w w' : World} {base base' : Nat} {L L' : List RawR} {l l' : List RowM}
theorem HoldO.hold (h : HoldO w base L l) : HoldR w L l := ⟨h.1, fun i q r hq hr => (h.2 i q r hq hr).is⟩
theorem HoldO.qf (h : HoldO w base' L l) (k : Qf base w w') : HoldO w' base' L l := ⟨h.1, fun i q r hq hr => (h.2 i q r hq hr).qf k⟩
theorem HoldO.pu (h : HoldO w base' L l) (k : Pu w w') : HoldO w' base' L l := ⟨h.1, fun i q r hq hr => (h.2 i q r hq hr).pu k⟩
theorem HoldO.base_ (h : HoldO w base L l) (hb : base' ≤ base) : HoldO w base' L l := ⟨h.1, fun i q r hq hr => (h.2 i q r hq hr).base_ hb⟩
theorem HoldO.nil (w : World) (base : Nat) : HoldO w base [] [] := ⟨rfl, fun i q r h => by simp at h⟩
theorem HoldO.append (h : HoldO w base L l) (h' : HoldO w base L' l') : HoldO w base (L ++ L') (l ++ l') := by
  refine ⟨by simp [h.1, h'.1], fun j p f h1 h2 => ?_⟩
  rcases Nat.lt_or_ge j L.length with hj | hj
  · rw [List.getElem?_append_left hj] at h1
    rw [List.getElem?_append_left (by rw [← h.1]; exact hj)] at h2
    exact h.2 j p f h1 h2
  · rw [List.getElem?_append_right hj] at h1
    rw [List.getElem?_append_right (by rw [← h.1]; exact hj), ← h.1] at h2
    exact h'.2 _ p f h1 h2
theorem HoldO.one {q : RawR} {r : RowM} (h : RowO w base q r) : HoldO w base [q] [r] := by
  refine ⟨rfl, fun i q' r' h1 h2 => ?_⟩
  cases i with
  | zero =>
    simp at h1 h2
    subst h1 h2
    exact h
  | succ i => simp at h1
theorem HoldO.at_ (h : HoldO w base L l) {i : Nat} {q : RawR} (hq : L[i]? = some q) : ∃ r, l[i]? = some r ∧ RowO w base q r := by
  have hlt := (List.getElem?_eq_some_iff.1 hq).1
  have hr : l[i]? = some (l[i]'(by rw [← h.1]; exact hlt)) := List.getElem?_eq_getElem (by rw [← h.1]; exact hlt)
  exact ⟨_, hr, h.2 i q _ hq hr⟩
end
theorem PairAt.pu {N : Nat → Prop} {w w' : World} {base q : Nat} {g : Bool} {A : Option Addr} {n c : Nat} {m : Option Addr} {pu pl pe : Value} {p : Pr} (h : PairAt w base N q g A n c m pu pl pe p) (k : Pu w w') : PairAt w' base N q g A n c m pu pl pe p :=
  ⟨h.blk.pu k, h.ge, h.tm.pu k, h.u.pu k, h.l.pu k, h.e.pu k⟩
theorem cat_one (q : RawR) : cat RawR.cells [q] = q.cells := by simp [cat]
theorem grown_qf {w w' : World} {base base' n c : Nat} {A : Option Addr} {xs : List Value} (ho : w.ownsRow base 35 4 (.slice A n c) n xs) (hb : base' ≤ base) (hg : w.grownBy w' (Value.slice A n c).ownBlock) : Qf base' w w' := by
  refine Qf.of (Fr.of_grown hg) (fun g hg2 => ?_)
  rcases ho.2 with ⟨hv, _⟩ | ⟨g', cap, cur, hv, hge, hgg, _⟩
  · rw [hv] at hg2
    cases hg2
  · rw [hv] at hg2
    have e : g' = g := by
      have h3 : some g' = some g := hg2
      injection h3
    subst e
    exact ⟨Nat.le_trans hb hge, _, _, _, hgg, by decide⟩
theorem own_other {w : World} {base n c k g : Nat} {e t : TypeId} {A : Option Addr} {xs : List Value} {cs : Array Value} (ho : w.ownsRow base e k (.slice A n c) n xs) (kb : Blk w g t cs) (ht : t ≠ e) : ¬ (Value.slice A n c).ownBlock = some g := fun h => by
  rcases ho.2 with ⟨hv, _⟩ | ⟨g', cap, cur, hv, _, hgg, _⟩
  · rw [hv] at h
    cases h
  · rw [hv] at h
    have e1 : g' = g := by
      have h3 : some g' = some g := h
      injection h3
    subst e1
    unfold Blk at kb
    rw [kb] at hgg
    injection hgg with hgg
    injection hgg with _ hgg
    exact ht hgg
theorem own_typed {w : World} {base n c k : Nat} {e : TypeId} {A : Option Addr} {xs : List Value} (ho : w.ownsRow base e k (.slice A n c) n xs) : ∀ g, (Value.slice A n c).ownBlock = some g → base ≤ g ∧ ∃ t cs fz, w.heap[g]? = some (.cells cs t fz) ∧ t = e := fun g h => by
  rcases ho.2 with ⟨hv, _⟩ | ⟨g', cap, cur, hv, hb, hgg, _⟩
  · rw [hv] at h
    cases h
  · rw [hv] at h
    have e1 : g' = g := by
      have h3 : some g' = some g := h
      injection h3
    subst e1
    exact ⟨hb, _, _, _, hgg, rfl⟩
end
end Go.Proofs.YtckfnbckoclhpaaGreatDoor
