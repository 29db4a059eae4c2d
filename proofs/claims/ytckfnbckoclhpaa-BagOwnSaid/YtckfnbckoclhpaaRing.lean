/- Rows of int in a ring: at, grow. -/
import Derived.Test.YtckfnbckoclhpaaCls2
import Derived.BigQuiet
import Derived.Deep.QuietTactic
import Derived.Laws.MakeOwn
import Derived.StillTailTactics
import Derived.Deep.RegionWith
set_option linter.unusedVariables false
namespace Go.Proofs.Ytckfnbckoclhpaa
open Go.RowKit

set_option maxRecDepth 100000 in
theorem at_any (b : Nat) (A : Option Addr) (rl rc f i cnt : Nat) (w : World) (hb : Blk w b 86 #[.slice A rl rc, .int .i64 f, .int .i64 cnt]) (h0 : 1 ≤ rl) (hrl : rl ≤ 1000000) (hf : f < rl) (hi : i ≤ 1000000) :
    Calls Try.prog 54 #[.pointer (some ⟨b, 0, none⟩), .int .i64 i] w fun e w' => e = .returned (.int .i64 (((f + i) % rl : Nat) : Int)) ∧ ∃ q, w' = w.drewN q := by
  have c0 : w.cell? ⟨b, 0, none⟩ = some (.slice A rl rc) := hb.cell 0
  have c1 : w.cell? ⟨b, 1, none⟩ = some (.int .i64 f) := hb.cell 1
  have hm0 : 0 ≤ ((f : Int) + (i : Int)) % (rl : Int) := Int.emod_nonneg _ (by omega)
  have hm1 : ((f : Int) + (i : Int)) % (rl : Int) < rl := Int.emod_lt_of_pos _ (by omega)
  have s0 : IntKind.i64.wrap ((f : Int) + i) = (f : Int) + i := IntWalk.i64_in _ (by omega)
  go_enter Try.func54, Try.ntmps54
  go_wp2_with fail
  go_quiet (fail)
  go_wp2
  go_ret
  exact ⟨by simp, nq, rfl⟩

theorem run_make_n {P : Program} {t e : TypeId} {z : Value} {size bytes : Nat} (E : ElemI P t e z size bytes) (kl kc : IntKind) (n : Nat) (hbytes : bytes * n ≤ 281474976710656) (h63 : n ≤ 9223372036854775807) (w : World) :
    (Instr.makeSlice t (.int kl (n : Int)) (.int kc (n : Int))).run P w = .ok (.slice (some ⟨w.heap.size, 0, none⟩) n n) (w.alloc (.cells (madeCells z.cells (n * size)) e)) := by
  obtain ⟨i, hi, hz, hsz, hby⟩ := info_parts E.info
  have hb : (i.bytes : Int) * (n : Int) ≤ 281474976710656 := by
    have h : ((i.bytes * n : Nat) : Int) ≤ 281474976710656 := by rw [hby]; omega
    rwa [Int.natCast_mul] at h
  have hr := run_make (P := P) w t e i z E.under hi hz kl kc n n (by omega) (by omega) hb (by omega)
  simp only [Int.toNat_natCast] at hr
  rw [hsz] at hr
  exact hr
theorem run_max3 {P : Program} (a b : TypeId) (x y z m : Int) (h : m = max (max x y) z) (w : World) : (Builtin.max_ #[a, a, a] b #[.int .i64 x, .int .i64 y, .int .i64 z]).run P w = .ok (.int .i64 m) w := by
  subst h
  have h1 : (if y > x then y else x) = max x y := by omega
  have h2 : (if z > max x y then z else max x y) = max (max x y) z := by omega
  simp [Builtin.max_, Builtin.max2, h1, h2]

theorem at_q (b : Nat) (A : Option Addr) (rl rc f i cnt q : Nat) (w : World) (hb : Blk w b 86 #[.slice A rl rc, .int .i64 f, .int .i64 cnt]) (h0 : 1 ≤ rl) (hrl : rl ≤ 1000000) (hf : f < rl) (hi : i ≤ 1000000) (hq : Hid ((f + i) % rl = q)) :
    Calls Try.prog 54 #[.pointer (some ⟨b, 0, none⟩), .int .i64 i] w fun e w' => e = .returned (.int .i64 q) ∧ ∃ n, w' = w.drewN n := by
  rw [← hq.out]
  exact at_any b A rl rc f i cnt w hb h0 hrl hf hi

/-- the room that grow makes -/
def room (rl cnt n : Nat) : Nat := max (max (2 * rl) (cnt + n)) 4

set_option maxRecDepth 100000 in
theorem grow_stay (b : Nat) (A : Option Addr) (rl rc f cnt n : Nat) (w : World) (hb : Blk w b 86 #[.slice A rl rc, .int .i64 f, .int .i64 cnt]) (hrl : rl ≤ 1000000) (hn : cnt + n ≤ rl) :
    Calls Try.prog 53 #[.pointer (some ⟨b, 0, none⟩), .int .i64 n] w fun e w' => e = .returned (.tuple #[]) ∧ ∃ q, w' = w.drewN q := by
  have c0 : w.cell? ⟨b, 0, none⟩ = some (.slice A rl rc) := hb.cell 0
  have c2 : w.cell? ⟨b, 2, none⟩ = some (.int .i64 cnt) := hb.cell 2
  have s0 : IntKind.i64.wrap ((cnt : Int) + n) = (cnt : Int) + n := IntWalk.i64_in _ (by omega)
  go_enter Try.func53, Try.ntmps53
  go_wp2_with fail
  go_quiet (fail)
  go_wp2
  refine bodyPost_ret (results_none rfl _ _ _) rfl ?_
  exact ⟨rfl, nq, rfl⟩

set_option maxHeartbeats 1600000 in
set_option maxRecDepth 100000 in
theorem grow_more (b r : Nat) (A : Option Addr) (rl rc f cnt n : Nat) (V : Nat → Int) (w : World) (hb : Blk w b 86 #[.slice A rl rc, .int .i64 f, .int .i64 cnt]) (hrl : rl ≤ 400000) (hn : rl < cnt + n) (hcn : cnt + n ≤ 400000)
    (hA : 0 < cnt → A = some ⟨r, 0, none⟩) (hf : 0 < cnt → f < rl) (hV : ∀ i, i < cnt → w.cell? ⟨r, (f + i) % rl, none⟩ = some (.int .i64 (V i))) :
    Calls Try.prog 53 #[.pointer (some ⟨b, 0, none⟩), .int .i64 n] w fun e w' => e = .returned (.tuple #[]) ∧ ∃ r2 cs, Blk w' b 86 #[.slice (some ⟨r2, 0, none⟩) (room rl cnt n) (room rl cnt n), .int .i64 0, .int .i64 cnt] ∧
      w.heap.size ≤ r2 ∧ Blk w' r2 3 cs ∧ cs.size = room rl cnt n ∧ (∀ i, i < cnt → cs[i]? = some (.int .i64 (V i))) ∧ Fr (fun k => k = b) w w' := by
  have c0 : w.cell? ⟨b, 0, none⟩ = some (.slice A rl rc) := hb.cell 0
  have c2 : w.cell? ⟨b, 2, none⟩ = some (.int .i64 cnt) := hb.cell 2
  have s0 : IntKind.i64.wrap ((cnt : Int) + n) = (cnt : Int) + n := IntWalk.i64_in _ (by omega)
  have s1 : IntKind.i64.wrap (2 * (rl : Int)) = 2 * (rl : Int) := IntWalk.i64_in _ (by omega)
  have d0 : decide ((cnt : Int) + n ≤ rl) = false := by simp; omega
  have hM4 : 4 ≤ room rl cnt n ∧ cnt + n ≤ room rl cnt n ∧ room rl cnt n ≤ 800000 := by unfold room; omega
  have hmax := fun W => run_max3 (P := Try.prog) 3 3 (2 * (rl : Int)) ((cnt : Int) + n) 4 (room rl cnt n : Nat) (by unfold room; omega) W
  obtain ⟨M, hM⟩ : ∃ M, room rl cnt n = M := ⟨_, rfl⟩
  rw [hM] at hM4 hmax
  obtain ⟨hM1, hM2, hM3⟩ := hM4
  have hmk := fun W => run_make_n eiInt .i64 .i64 M (by omega) (by omega) W
  have HM := Lib.hid hM
  clear hM
  go_enter Try.func53, Try.ntmps53
  go_wp2_with fail
  go_quiet (fail)
  go_wp2_with fail
  go_region
  have hsz0 := hb.lt
  have hmc : (madeCells #[Value.int .i64 0] M).size = M := size_madeCells _ _
  have hW : Pu w ((w.drewN (nq + 1)).alloc (Obj.cells (madeCells #[Value.int IntKind.i64 0] M) 3)) := ((Pu.refl w).drewN _).alloc _
  have hB : Blk ((w.drewN (nq + 1)).alloc (Obj.cells (madeCells #[Value.int IntKind.i64 0] M) 3)) w.heap.size 3 (madeCells #[Value.int .i64 0] M) := Blk.at_new _ _ _ rfl
  have HV := Lib.hid hV
  clear hV hmk hmax
  generalize (w.drewN (nq + 1)).alloc (Obj.cells (madeCells #[Value.int IntKind.i64 0] M) 3) = W1 at *
  generalize madeCells #[Value.int .i64 0] M = cs0 at *
  have b1 := hb.pu hW
  have g2 : W1.cell? ⟨b, 2, none⟩ = some (.int .i64 cnt) := b1.cell 2
  have g0 : W1.cell? ⟨b, 0, none⟩ = some (.slice A rl rc) := b1.cell 0
  go_wp2_with fail
  go_loopw [36] (fun i wr => ∃ (k : Nat) (cs : Array Value), k ≤ cnt ∧ i = .int .i64 k ∧ Blk wr w.heap.size 3 cs ∧ cs.size = M ∧ (∀ i, i < k → cs[i]? = some (.int .i64 (V i))) ∧ Pu w wr) (fun i _ => cnt - (intOf i).toNat)
  case atStart => exact ⟨0, cs0, Nat.zero_le _, rfl, hB, hmc, fun i hi => by omega, hW⟩
  case round =>
    clear g0 g2 b1 hB hW
    obtain ⟨k, cs, hk, rfl, hBr, hsz, hcs, hP⟩ := hrel
    have HC := Lib.hid hcs
    have HZ := Lib.hid hsz
    clear hcs hsz
    have br := hb.pu hP
    by_cases hlt : k < cnt
    · have hfr := hf (by omega)
      have hAr := hA (by omega)
      subst hAr
      clear hf
      have g0 : wr.cell? ⟨b, 0, none⟩ = some (.slice (some ⟨r, 0, none⟩) rl rc) := br.cell 0
      have gV : wr.cell? ⟨r, (f + k) % rl, none⟩ = some (.int .i64 (V k)) := hP.cellv (HV.out k hlt)
      have gm : (f + k) % rl < rl := Nat.mod_lt _ (by omega)
      have gk : ∃ u, wr.cell? ⟨w.heap.size, k, none⟩ = some u := ⟨_, (hBr.cell k).trans (Array.getElem?_eq_getElem (by rw [HZ.out]; omega))⟩
      obtain ⟨u, gk⟩ := gk
      have gf : wr.frozen? ⟨w.heap.size, k, none⟩ = false := hBr.frozen k
      generalize hq : (f + k) % rl = q at *
      have Hq := Lib.hid hq
      clear hq
      go_wp2_with fail
      go_region_with (go_at_call 54; refine (at_q b _ rl rc f k cnt q _ br.drew (by omega) (by omega) hfr (by omega) Hq).mono ?_; rintro e w' ⟨rfl, qq, rfl⟩)
      all_goals
        go_wp2_with fail
        go_roundw
        case rel => exact ⟨k + 1, cs.setIfInBounds k (.int .i64 (V k)), by omega, by go_num, (hBr.drewN _).set_ k _, by rw [Array.size_setIfInBounds, HZ.out], fun i hi => by
          by_cases e : i = k
          · subst e
            rw [Array.getElem?_setIfInBounds_self_of_lt (by rw [HZ.out]; omega)]
          · rw [Array.getElem?_setIfInBounds_ne (by omega)]
            exact HC.out i (by omega), (hP.drewN _).setCell (Nat.le_refl _) _⟩
        case measure => simp [intOf]; omega
    · have f0 : wr.frozen? ⟨b, 0, none⟩ = false := br.frozen 0
      have f1 : wr.frozen? ⟨b, 1, none⟩ = false := br.frozen 1
      have e0 : wr.cell? ⟨b, 0, none⟩ = some (.slice A rl rc) := br.cell 0
      have e1 : wr.cell? ⟨b, 1, none⟩ = some (.int .i64 f) := br.cell 1
      have hne : w.heap.size ≠ b := by omega
      have hks : k = cnt := by omega
      subst hks
      go_wp2_with fail
      refine bodyPost_end (results_none rfl _ _ _) rfl ?_
      rw [HM.out]
      refine ⟨rfl, w.heap.size, cs, ?_, Nat.le_refl _, ?_, HZ.out, HC.out, ?_⟩
      · exact (br.set_ 0 _).set_ 1 _
      · exact (hBr.far hne _).far hne _
      · exact ((hP.fr (S := fun k => k = b)).setCell (p := ⟨b, 0, none⟩) (.inl rfl) _).setCell (p := ⟨b, 1, none⟩) (.inl rfl) _
end Go.Proofs.Ytckfnbckoclhpaa
