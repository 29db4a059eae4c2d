/- Classes: contracts of there, root, Join, Find, Count, NewClasses, and of the document's Join. -/
import Derived.Test.YtckfnbckoclhpaaBase
import Derived.Test.YtckfnbckoclhpaaCls0
import Derived.Test.YtckfnbckoclhpaaProg
set_option linter.unusedVariables false
namespace Go.Proofs.Ytckfnbckoclhpaa
open Go.RowKit

/-- of cells cs the first n are the numbers f -/
def Rd (cs : Array Value) (n : Nat) (f : Nat → Nat) : Prop := ∀ i, i < n → cs[i]? = some (.int .i64 (f i))
theorem Rd.set {cs : Array Value} {n : Nat} {f : Nat → Nat} (h : Rd cs n f) {a v : Nat} (ha : a < n) : Rd (cs.setIfInBounds a (.int .i64 v)) n (upd f a v) := by
  intro i hi
  have hs : a < cs.size := by
    have := h a ha
    exact (Array.getElem?_eq_some_iff.1 this).1
  unfold upd
  by_cases e : i = a
  · subst e
    simp [hs]
  · rw [if_neg e, Array.getElem?_setIfInBounds_ne (by omega)]
    exact h i hi

set_option maxRecDepth 100000 in
theorem root_any (b u c : Nat) (f : Nat → Nat) (n a : Nat) (cs : Array Value) (cnt : Int) (w : World)
    (hn : n ≤ 65536) (ha : a < n) (hb : Blk w b 80 #[.slice (some ⟨u, 0, none⟩) n c, .int .i64 cnt])
    (hf : ∀ i, f i ≤ i) (hu : Blk w u 3 cs) (hr : Rd cs n f) :
    Calls Try.prog 47 #[.pointer (some ⟨b, 0, none⟩), .int .i64 a] w fun e w' => e = .returned (.int .i64 (rt f a)) ∧ ∃ f' cs', Blk w' u 3 cs' ∧ Rd cs' n f' ∧ (∀ i, f' i ≤ i) ∧ (∀ i, rt f' i = rt f i) ∧ Fr (fun k => k = u) w w' := by
  have hbu : b ≠ u := hb.ne_ hu (by decide)
  have cb : w.cell? ⟨b, 0, none⟩ = some (.slice (some ⟨u, 0, none⟩) n c) := hb.cell 0
  go_enter Try.func47, Try.ntmps47
  go_wp2
  clear cb
  go_loopw [1] (fun v wr => ∃ (k : Nat) (g : Nat → Nat) (ds : Array Value), k ≤ a ∧ v = .int .i64 k ∧ rt f a = rt g k ∧ Blk wr u 3 ds ∧ Rd ds n g ∧ (∀ i, g i ≤ i) ∧ (∀ i, rt g i = rt f i) ∧ Fr (fun k => k = u) w wr) (fun v _ => (intOf v).toNat)
  case atStart => exact ⟨a, f, cs, Nat.le_refl _, rfl, rfl, hu, hr, hf, fun _ => rfl, Fr.refl _ _⟩
  case round =>
    obtain ⟨k, g, ds, hk, rfl, hrt, hu', hr', hg, hgf, hfr⟩ := hrel
    have cb : wr.cell? ⟨b, 0, none⟩ = some (.slice (some ⟨u, 0, none⟩) n c) := (hb.fr hfr hbu).cell 0
    have h1 := hg k
    have h2 := hg (g k)
    have c1 : wr.cell? ⟨u, k, none⟩ = some (.int .i64 (g k)) := (hu'.cell k).trans (hr' k (by omega))
    have c2 : wr.cell? ⟨u, g k, none⟩ = some (.int .i64 (g (g k))) := (hu'.cell (g k)).trans (hr' (g k) (by omega))
    have f1 : wr.frozen? ⟨u, k, none⟩ = false := hu'.frozen k
    have Hr := Lib.hid hrt
    have Hgf := Lib.hid hgf
    have Hg := Lib.hid hg
    have Hf := Lib.hid hf
    clear hrt hgf hg hf
    by_cases hlt : (g k : Nat) = k
    · have hb' : ((g k : Int) != (k : Int)) = false := by simp [hlt]
      have H := Lib.hid hlt
      clear hlt
      go_wp2
      go_ret
      refine ⟨?_, g, ds, hu', hr', Hg.out, Hgf.out, hfr⟩
      rw [Hr.out, rt_fix H.out]
      rfl
    · have hb' : ((g k : Int) != (k : Int)) = true := by simp; omega
      go_wp2
      go_region
      go_wp2
      go_roundw
      case rel => exact ⟨g (g k), upd g k (g (g k)), _, by omega, rfl, by rw [Hr.out, rt_halve Hg.out, rt_step Hg.out, rt_step Hg.out], (hu'.set_ k _).drew, hr'.set (by omega), upd_le Hg.out (by omega), fun i => by rw [rt_halve Hg.out, Hgf.out], (hfr.setCell (.inl rfl) _).drew⟩
      case measure => simp [intOf]; omega

/-- classes of n numbers behind the pointer b, all blocks from B on, below E -/
def Cls (B E : Nat) (w : World) (b n : Nat) (f : Nat → Nat) (cnt : Int) : Prop :=
  ∃ A u c cs, (B ≤ b ∧ b < E) ∧ Blk w b 80 #[.slice A n c, .int .i64 cnt] ∧ (0 < n → A = some ⟨u, 0, none⟩ ∧ (B ≤ u ∧ u < E) ∧ Blk w u 3 cs ∧ Rd cs n f) ∧ ∀ i, f i ≤ i

theorem Cls.fr {S : Nat → Prop} {B E b n : Nat} {w w' : World} {f : Nat → Nat} {cnt : Int} (h : Cls B E w b n f cnt) (hf : Fr S w w') (hs : ∀ k, B ≤ k → k < E → ¬ S k) : Cls B E w' b n f cnt := by
  obtain ⟨A, u, c, cs, hB, hb, hu, hle⟩ := h
  exact ⟨A, u, c, cs, hB, hb.fr hf (hs _ hB.1 hB.2), fun h0 => ⟨(hu h0).1, (hu h0).2.1, (hu h0).2.2.1.fr hf (hs _ (hu h0).2.1.1 (hu h0).2.1.2), (hu h0).2.2.2⟩, hle⟩
theorem Cls.le {B E b n : Nat} {w : World} {f : Nat → Nat} {cnt : Int} (h : Cls B E w b n f cnt) : ∀ i, f i ≤ i := by
  obtain ⟨A, u, c, cs, hB, hb, hu, hle⟩ := h
  exact hle
theorem Cls.pu {B E b n : Nat} {w w' : World} {f : Nat → Nat} {cnt : Int} (h : Cls B E w b n f cnt) (hf : Pu w w') : Cls B E w' b n f cnt := h.fr hf (fun _ _ _ x => x)

set_option maxRecDepth 100000 in
theorem there_any (b : Nat) (A : Option Addr) (n c : Nat) (x : Int) (cnt : Int) (w : World) (hn : n ≤ 65536) (hb : Blk w b 80 #[.slice A n c, .int .i64 cnt]) :
    Calls Try.prog 46 #[.pointer (some ⟨b, 0, none⟩), .int .i64 x] w fun e w' => e = .returned (.bool (decide (0 ≤ x) && decide (x < n))) ∧ w = w' := by
  have cb : w.cell? ⟨b, 0, none⟩ = some (.slice A n c) := hb.cell 0
  by_cases h0 : 0 ≤ x
  · by_cases h1 : x < n
    · go_enter Try.func46, Try.ntmps46
      go_wp2
      go_ret
      exact ⟨by simp [h0, h1], rfl⟩
    · go_enter Try.func46, Try.ntmps46
      go_wp2
      go_ret
      exact ⟨by simp [h1], rfl⟩
  · go_enter Try.func46, Try.ntmps46
    go_wp2
    go_ret
    exact ⟨by simp [show ¬ 0 ≤ x by omega], rfl⟩

set_option maxRecDepth 100000 in
theorem count_any (B E b n : Nat) (f : Nat → Nat) (cnt : Int) (w : World) (hc : Cls B E w b n f cnt) :
    Calls Try.prog 13 #[.pointer (some ⟨b, 0, none⟩)] w fun e w' => e = .returned (.int .i64 cnt) ∧ w = w' := by
  obtain ⟨A, u, c, cs, hB, hb, _⟩ := hc
  have cb : w.cell? ⟨b, 1, none⟩ = some (.int .i64 cnt) := hb.cell 1
  go_enter Try.func13, Try.ntmps13
  go_wp2
  go_ret
  exact ⟨rfl, rfl⟩

set_option maxRecDepth 100000 in
theorem find_out (B E b n : Nat) (f : Nat → Nat) (cnt : Int) (x : Int) (w : World) (hn : n ≤ 65536) (hc : Cls B E w b n f cnt) (hx : x < 0 ∨ n ≤ x) :
    Calls Try.prog 14 #[.pointer (some ⟨b, 0, none⟩), .int .i64 x] w fun e w' => e = .returned (.tuple #[.int .i64 0, .int .i64 12]) ∧ w = w' := by
  obtain ⟨A, u, c, cs, hB, hb, _⟩ := hc
  have ht : (decide (0 ≤ x) && decide (x < n)) = false := by
    rcases hx with h | h
    · simp [show ¬ 0 ≤ x by omega]
    · simp [show ¬ x < n by omega]
  go_enter Try.func14, Try.ntmps14
  go_wp2_with fail
  refine (there_any b A n c x cnt _ hn hb).mono ?_
  rintro e w' ⟨rfl, rfl⟩
  rw [ht]
  go_wp2
  go_ret2
  exact ⟨rfl, rfl⟩

set_option maxRecDepth 100000 in
theorem find_in (B E b n : Nat) (f : Nat → Nat) (cnt : Int) (x : Nat) (w : World) (hn : n ≤ 65536) (hc : Cls B E w b n f cnt) (hx : x < n) :
    Calls Try.prog 14 #[.pointer (some ⟨b, 0, none⟩), .int .i64 x] w fun e w' => e = .returned (.tuple #[.int .i64 (rt f x), .int .i64 0]) ∧ ∃ f', Cls B E w' b n f' cnt ∧ (∀ i, rt f' i = rt f i) ∧ Fr (fun k => B ≤ k ∧ k < E) w w' := by
  obtain ⟨A, u, c, cs, hB, hb, hu0, hf⟩ := hc
  obtain ⟨rfl, hBu, hu, hr⟩ := hu0 (by omega)
  clear hu0
  have hbu : b ≠ u := hb.ne_ hu (by decide)
  have ht : (decide ((0 : Int) ≤ x) && decide ((x : Int) < n)) = true := by simp; omega
  go_enter Try.func14, Try.ntmps14
  go_wp2_with fail
  refine (there_any b _ n c x cnt _ hn hb).mono ?_
  rintro e w' ⟨rfl, rfl⟩
  rw [ht]
  go_wp2_with fail
  refine (root_any b u c f n x cs cnt _ hn hx hb hf hu hr).mono ?_
  rintro e w1 ⟨rfl, f1, cs1, hu1, hr1, hf1, hrt, hfr⟩
  have Hrt := Lib.hid hrt
  clear hrt
  go_wp2
  go_ret2
  exact ⟨rfl, f1, ⟨_, u, c, cs1, hB, hb.fr hfr hbu, fun _ => ⟨rfl, hBu, hu1, hr1⟩, hf1⟩, Hrt.out, hfr.mono (fun k _ e => by omega)⟩

set_option maxRecDepth 100000 in
theorem join_out (B E b n : Nat) (f : Nat → Nat) (cnt : Int) (x y : Int) (w : World) (hn : n ≤ 65536) (hc : Cls B E w b n f cnt) (hx : ¬ (0 ≤ x ∧ x < n ∧ 0 ≤ y ∧ y < n)) :
    Calls Try.prog 11 #[.pointer (some ⟨b, 0, none⟩), .int .i64 x, .int .i64 y] w fun e w' => e = .returned (.tuple #[.bool false, .int .i64 12]) ∧ w = w' := by
  obtain ⟨A, u, c, cs, hB, hb, _⟩ := hc
  by_cases h0 : 0 ≤ x ∧ x < n
  · have ht : (decide (0 ≤ x) && decide (x < n)) = true := by simp [h0]
    have ht' : (decide (0 ≤ y) && decide (y < n)) = false := by
      by_cases h1 : 0 ≤ y
      · simp [show ¬ y < n by omega]
      · simp [h1]
    clear hx h0
    go_enter Try.func11, Try.ntmps11
    go_wp2_with fail
    refine (there_any b A n c x cnt _ hn hb).mono ?_
    rintro e w' ⟨rfl, rfl⟩
    rw [ht]
    go_wp2_with fail
    refine (there_any b A n c y cnt _ hn hb).mono ?_
    rintro e w' ⟨rfl, rfl⟩
    rw [ht']
    go_wp2
    go_ret2
    exact ⟨rfl, rfl⟩
  · have ht : (decide (0 ≤ x) && decide (x < n)) = false := by
      by_cases h1 : 0 ≤ x
      · simp [show ¬ x < n by omega]
      · simp [h1]
    clear hx h0
    go_enter Try.func11, Try.ntmps11
    go_wp2_with fail
    refine (there_any b A n c x cnt _ hn hb).mono ?_
    rintro e w' ⟨rfl, rfl⟩
    rw [ht]
    go_wp2
    go_ret2
    exact ⟨rfl, rfl⟩

def jCnt (p q : Nat) (cnt : Int) : Int := if p = q then cnt else cnt - 1
def jRt (p q r : Nat) : Nat := if r = max p q then min p q else r
def jNe (p q : Nat) : Bool := !(p == q)
theorem jCnt_eq {p q : Nat} (h : p = q) (c : Int) : jCnt p q c = c := if_pos h
theorem jCnt_ne {p q : Nat} (h : p ≠ q) (c : Int) : jCnt p q c = c - 1 := if_neg h
theorem jNe_eq {p q : Nat} (h : p = q) : jNe p q = false := by simp [jNe, h]
theorem jNe_ne {p q : Nat} (h : p ≠ q) : jNe p q = true := by simp [jNe, h]
theorem jRt_eq {p q : Nat} (h : p = q) (r : Nat) : jRt p q r = r := by unfold jRt; split <;> omega
theorem jRt_lt {p q : Nat} (h : p < q) (r : Nat) : jRt p q r = if r = q then p else r := by unfold jRt; rw [Nat.max_eq_right (by omega), Nat.min_eq_left (by omega)]
theorem jRt_gt {p q : Nat} (h : q < p) (r : Nat) : jRt p q r = if r = p then q else r := by unfold jRt; rw [Nat.max_eq_left (by omega), Nat.min_eq_right (by omega)]

set_option maxRecDepth 100000 in
theorem join_in (B E b n : Nat) (f : Nat → Nat) (cnt : Int) (x y : Nat) (w : World) (hn : n ≤ 65536) (hcn : -65536 ≤ cnt) (hcm : cnt ≤ 65536) (hc : Cls B E w b n f cnt) (hx : x < n) (hy : y < n) :
    Calls Try.prog 11 #[.pointer (some ⟨b, 0, none⟩), .int .i64 x, .int .i64 y] w fun e w' => e = .returned (.tuple #[.bool (jNe (rt f x) (rt f y)), .int .i64 0]) ∧
      ∃ f', Cls B E w' b n f' (jCnt (rt f x) (rt f y) cnt) ∧ (∀ i, rt f' i = jRt (rt f x) (rt f y) (rt f i)) ∧ Fr (fun k => B ≤ k ∧ k < E) w w' := by
  obtain ⟨A, u, c, cs, hB, hb, hu0, hf⟩ := hc
  obtain ⟨rfl, hBu, hu, hr⟩ := hu0 (by omega)
  clear hu0
  have hbu : b ≠ u := hb.ne_ hu (by decide)
  have ht : (decide ((0 : Int) ≤ x) && decide ((x : Int) < n)) = true := by simp; omega
  have ht' : (decide ((0 : Int) ≤ y) && decide ((y : Int) < n)) = true := by simp; omega
  go_enter Try.func11, Try.ntmps11
  go_wp2_with fail
  refine (there_any b _ n c x cnt _ hn hb).mono ?_
  rintro e w' ⟨rfl, rfl⟩
  rw [ht]
  go_wp2_with fail
  refine (there_any b _ n c y cnt _ hn hb).mono ?_
  rintro e w' ⟨rfl, rfl⟩
  rw [ht']
  clear ht ht'
  go_wp2_with fail
  refine (root_any b u c f n x cs cnt _ hn hx hb hf hu hr).mono ?_
  rintro e w1 ⟨rfl, f1, cs1, hu1, hr1, hf1, hrt1, hfr1⟩
  have hb1 := hb.fr hfr1 hbu
  have Hrt1 := Lib.hid hrt1
  have Hf1 := Lib.hid hf1
  clear hrt1 hf1
  go_wp2_with fail
  refine (root_any b u c f1 n y cs1 cnt _ hn hy hb1 Hf1.out hu1 hr1).mono ?_
  rintro e w2 ⟨rfl, f2, cs2, hu2, hr2, hf2, hrt2, hfr2⟩
  rw [Hrt1.out]
  have hb2 := hb1.fr hfr2 hbu
  have cb0 : w2.cell? ⟨b, 0, none⟩ = some (.slice (some ⟨u, 0, none⟩) n c) := hb2.cell 0
  have cb1 : w2.cell? ⟨b, 1, none⟩ = some (.int .i64 cnt) := hb2.cell 1
  have fb1 : w2.frozen? ⟨b, 1, none⟩ = false := hb2.frozen 1
  have Hrt2 := Lib.hid hrt2
  have Hf2 := Lib.hid hf2
  clear hrt2 hf2 Hf1
  have hrx : f2 (rt f x) = rt f x := by
    have := (rt_root Hf2.out x).1
    rwa [Hrt2.out, Hrt1.out] at this
  have hry : f2 (rt f y) = rt f y := by
    have := (rt_root Hf2.out y).1
    rwa [Hrt2.out, Hrt1.out] at this
  have hlx : rt f x ≤ x := rt_le hf x
  have hly : rt f y ≤ y := rt_le hf y
  have Hx := Lib.hid hrx
  have Hy := Lib.hid hry
  have Hf := Lib.hid hf
  clear hrx hry hf
  have hrt : ∀ i, rt f2 i = rt f i := fun i => (Hrt2.out i).trans (Hrt1.out i)
  have Hrt := Lib.hid hrt
  clear hrt Hrt1 Hrt2
  have hBS : Fr (fun k => B ≤ k ∧ k < E) w w2 := (hfr1.trans hfr2).mono (fun k _ e => by omega)
  generalize hX : rt f x = X at *
  generalize hY : rt f y = Y at *
  have HX := Lib.hid hX
  have HY := Lib.hid hY
  clear hX hY
  by_cases hxy : X = Y
  · have e1 : ((X : Int) == (Y : Int)) = true := by simp [hxy]
    have H := Lib.hid hxy
    clear hxy
    go_wp2
    go_ret2
    have e2 : rt f x = rt f y := by rw [HX.out, HY.out, H.out]
    rw [jNe_eq e2, jCnt_eq e2]
    refine ⟨rfl, f2, ⟨_, u, c, cs2, hB, hb2, fun _ => ⟨rfl, hBu, hu2, hr2⟩, Hf2.out⟩, fun i => ?_, hBS⟩
    rw [Hrt.out, jRt_eq e2]
  · have e1 : ((X : Int) == (Y : Int)) = false := by simp; omega
    have e2 : rt f x ≠ rt f y := by rw [HX.out, HY.out]; exact hxy
    have E2 := Lib.hid e2
    clear e2
    by_cases hlt : X < Y
    · have c1 : w2.cell? ⟨u, Y, none⟩ = some (.int .i64 (f2 Y)) := (hu2.cell _).trans (hr2 _ (by omega))
      have f1 : w2.frozen? ⟨u, Y, none⟩ = false := hu2.frozen _
      go_wp2
      go_ret2
      rw [jNe_ne E2.out, jCnt_ne E2.out]
      refine ⟨rfl, upd f2 Y X, ⟨_, u, c, _, hB, (hb2.far hbu _).set_ 1 _, fun _ => ⟨rfl, hBu, (hu2.set_ Y _).far (Ne.symm hbu) _, hr2.set (by omega)⟩, upd_le Hf2.out (by omega)⟩, fun i => ?_, (hBS.setCell (.inl hBu) _).setCell (.inl hB) _⟩
      rw [rt_union Hf2.out Hx.out Hy.out hlt, Hrt.out, HX.out, HY.out, jRt_lt hlt]
    · have c1 : w2.cell? ⟨u, X, none⟩ = some (.int .i64 (f2 X)) := (hu2.cell _).trans (hr2 _ (by omega))
      have f1 : w2.frozen? ⟨u, X, none⟩ = false := hu2.frozen _
      have hgt : Y < X := by omega
      go_wp2
      go_ret2
      rw [jNe_ne E2.out, jCnt_ne E2.out]
      refine ⟨rfl, upd f2 X Y, ⟨_, u, c, _, hB, (hb2.far hbu _).set_ 1 _, fun _ => ⟨rfl, hBu, (hu2.set_ X _).far (Ne.symm hbu) _, hr2.set (by omega)⟩, upd_le Hf2.out (by omega)⟩, fun i => ?_, (hBS.setCell (.inl hBu) _).setCell (.inl hB) _⟩
      rw [rt_union Hf2.out Hy.out Hx.out hgt, Hrt.out, HX.out, HY.out, jRt_gt hgt]
end Go.Proofs.Ytckfnbckoclhpaa
