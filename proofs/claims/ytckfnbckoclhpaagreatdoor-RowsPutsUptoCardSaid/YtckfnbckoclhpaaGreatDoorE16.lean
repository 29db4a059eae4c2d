/- Terms: String. Terms: Divide by a number that is not 0. -/
import Derived.Test.YtckfnbckoclhpaaGreatDoorE15
import Derived.Test.YtckfnbckoclhpaaGreatDoorC03
import Derived.Test.YtckfnbckoclhpaaGreatDoorE08
import Derived.Deep.RegionHeld3
import Derived.Test.YtckfnbckoclhpaaGreatDoorC07
namespace Go.Proofs.YtckfnbckoclhpaaGreatDoor
section
set_option linter.unusedVariables false
open Go.RowKit
def ftext (fs : List (Key × Int)) : Key := fs.flatMap fun f => ztext f.2 ++ (42 :: (f.1 ++ [43]))
theorem ftext_next {fs : List (Key × Int)} {i : Nat} {k : Key} {z : Int} (h : fs[i]? = some (k, z)) : ftext (fs.take (i + 1)) = ftext (fs.take i) ++ (ztext z ++ (42 :: (k ++ [43]))) := by
  unfold ftext
  rw [List.take_add_one, h, List.flatMap_append]
  simp
theorem ftext_take (fs : List (Key × Int)) (i : Nat) : (ftext (fs.take i)).length ≤ (ftext fs).length := by
  have h : ftext fs = ftext (fs.take i) ++ ftext (fs.drop i) := by
    unfold ftext
    rw [← List.flatMap_append, List.take_append_drop]
  rw [h, List.length_append]
  omega
theorem join_text (a b : List UInt8) : (⟨a.toArray⟩ ++ ⟨#[42]⟩ ++ ⟨b.toArray⟩ ++ ⟨#[43]⟩ : ByteArray) = ⟨(a ++ (42 :: (b ++ [43]))).toArray⟩ := by
  apply ByteArray.ext
  simp
theorem low_cell {B b : Nat} {t : TypeId} {cs : Array Value} {w w' : World} (h : Below B w w') (k : Blk w b t cs) (hb : b < B) (i : Nat) : w'.cell? ⟨b, i, none⟩ = cs[i]? := (h.cell (p := ⟨b, i, none⟩) hb).trans (k.cell i)
theorem low_pu {B : Nat} {a w w' : World} (h : Below B a w) (p : Pu w w') (hb : B ≤ a.heap.size) : Below B a w' := h.trans ⟨p.os, p.tape, p.output, p.size, fun k hk => p.block k (Nat.lt_of_lt_of_le hk (Nat.le_trans hb h.size)) (fun x => x)⟩
theorem digs_len : ∀ (k n : Nat), n < 10 ^ k → (digs n).length ≤ k
  | 0, n, h => by
    have : n = 0 := by simpa using h
    rw [this, digs_zero]
    exact Nat.le_refl _
  | k + 1, n, h => by
    by_cases e : n = 0
    · rw [e, digs_zero]
      exact Nat.zero_le _
    · rw [digs_pos e, List.length_cons]
      have := digs_len k (n / 10) (by
        rw [Nat.pow_succ] at h
        exact Nat.div_lt_of_lt_mul (by rw [Nat.mul_comm]; exact h))
      omega
theorem pow_ten (a : Nat) : 4294967296 ^ a ≤ 10 ^ (10 * a) := by
  rw [Nat.pow_mul]
  exact Nat.pow_le_pow_left (by decide) a
theorem ztext_len {z : Int} {a : Nat} (h : z.natAbs < 4294967296 ^ a) : (ztext z).length ≤ 10 * a + 1 := by
  have h1 := digs_len (10 * a) z.natAbs (Nat.lt_of_lt_of_le h (pow_ten a))
  unfold ztext
  split
  · simp
  · rw [List.length_append, List.length_map, List.length_reverse]
    split
    · simp
      omega
    · simp
      omega
set_option maxHeartbeats 3000000 in
set_option maxRecDepth 100000 in
theorem tstring_any (v : Value) (rest : Int) (fs : List (Key × Int)) (w : World) (h : TM w v rest fs) (hr : rest.natAbs < 4294967296 ^ 40000) (hf : ∀ f ∈ fs, f.2.natAbs < 4294967296 ^ 40000) (hl : (ftext fs).length ≤ 140737488355328) :
    Calls Tryz.prog 33 #[v] w fun e w' => e = .returned (.string ⟨(ttext rest fs).toArray⟩) ∧ Pu w w' := by
  obtain ⟨g, A, n, c, m, rfl⟩ := h.shape
  obtain ⟨W, hWe⟩ : ∃ W, W = (w.alloc (.cells #[.bool g, .slice A n c, .pointer m] 33)).alloc (.cells #[.pointer none, .slice none 0 0] 147) := ⟨_, rfl⟩
  have pW : Pu w W := by rw [hWe]; exact ((Pu.refl w).alloc _).alloc _
  have k1 : Blk W w.heap.size 33 #[.bool g, .slice A n c, .pointer m] := by rw [hWe]; exact (Blk.new w _ _).alloc _
  have k2 : Blk W (w.heap.size + 1) 147 #[.pointer none, .slice none 0 0] := by rw [hWe]; exact Blk.at_new _ _ _ (by simp)
  have hsz : W.heap.size = w.heap.size + 2 := by rw [hWe]; simp
  have hp := tpairs_any _ _ _ _ (h.pu pW)
  have Hz := Lib.hid h.rest_
  have Hp := Lib.hid hp
  rw [hWe] at Hp
  have HWe := Lib.hid hWe
  have HH := Lib.hid (And.intro hr (And.intro hf hl))
  clear hWe h hp hr hf hl
  go_enter Tryz.func33, Tryz.ntmps33
  go_wp2_with fail
  refine Hp.out.mono ?_
  rintro e Wp ⟨A4, n4, c4, LG, rfl, hSl, hn4, hHG, hB4, p2⟩
  rw [← HWe.out] at p2 hB4
  have j1 := k1.pu p2
  have hb0 : Bld Wp (w.heap.size + 1) Wp.heap.size [] := Bld.new (k2.pu p2) (by have := p2.size; omega)
  have hsz2 := p2.size
  have PW := pW.trans p2
  have hLG : LG.length = n4 := lenZ hSl
  have kb := k2.pu p2
  clear p2 k1 k2 Hp HWe
  go_wp2_with fail
  go_loopw [9] (fun iv ws => ∃ i : Nat, i ≤ n4 ∧ iv = .int .i64 (i : Int) ∧ Bld ws (w.heap.size + 1) Wp.heap.size (ftext (fs.take i)) ∧ Fr (fun j => j = w.heap.size + 1) Wp ws) (fun iv _ => n4 - (intOf iv).toNat)
  case atStart => exact ⟨0, Nat.zero_le _, rfl, hb0, Fr.refl _ _⟩
  case round =>
    obtain ⟨i, hi, rfl, hB, hF⟩ := hrel
    have hsr := hF.size
    have l1 := j1.fr hF (by omega)
    by_cases hil : i < n4
    · obtain ⟨p, hp⟩ : ∃ p, LG[i]? = some p := ⟨_, List.getElem?_eq_getElem (by omega)⟩
      obtain ⟨gg, hgi⟩ : ∃ g, fs[i]? = some g := ⟨_, List.getElem?_eq_getElem (by rw [← hHG.1]; omega)⟩
      obtain ⟨k, qg, qA, qn, qc⟩ := p
      obtain ⟨k', z⟩ := gg
      obtain ⟨ek, hq⟩ := hHG.2 i _ _ hp hgi
      dsimp only at ek hq
      subst ek
      have hS4 : Sl wr 3 A4 n4 c4 (kps vcZ LG) := hSl.fr hF (fun _ b' off e hS => by
        have h5 := hB4 b' off e
        omega)
      obtain ⟨bb, off, rfl, hbl, x0, x1, x2⟩ := atZ hS4 hp
      have hq4 := hq.frT hF (fun g hg => by subst hg; exact ⟨_, _, _, kb, by decide⟩)
      have Hzb := Lib.hid (HH.out.2.1 _ (List.mem_of_getElem? hgi))
      have hnx := ftext_next hgi
      have hle := ftext_take fs (i + 1)
      rw [hnx, List.length_append] at hle
      have hle2 := HH.out.2.2
      have hlx : (ztext z).length + k.length + 2 ≤ 140737488355328 := by
        have e : (ztext z ++ (42 :: (k ++ [43]))).length = (ztext z).length + k.length + 2 := by simp; omega
        omega
      have hwr : (ftext (fs.take i)).length + (ztext z ++ (42 :: (k ++ [43]))).length ≤ 140737488355328 := by omega
      have Hwr := Lib.hid hwr
      clear hwr hle hle2
      have hys : ∃ y0 y1 y2 y3 : ByteArray, y0 = ⟨(ztext z).toArray⟩ ∧ y3 = ⟨(ztext z ++ (42 :: (k ++ [43]))).toArray⟩ ∧ (∀ V, (Op.stringOp .add y0 ⟨#[42]⟩).run Tryz.prog V = .ok (.string y1) V) ∧ (∀ V, (Op.stringOp .add y1 ⟨k.toArray⟩).run Tryz.prog V = .ok (.string y2) V) ∧ (∀ V, (Op.stringOp .add y2 ⟨#[43]⟩).run Tryz.prog V = .ok (.string y3) V) := by
        refine ⟨_, _, _, _, rfl, join_text (ztext z) k, fun V => run_string_add_sum V _ _ ?_, fun V => run_string_add_sum V _ _ ?_, fun V => run_string_add_sum V _ _ ?_⟩
        · simp [ByteArray.size]; omega
        · simp [ByteArray.size, ByteArray.data_append]; omega
        · simp [ByteArray.size, ByteArray.data_append]; omega
      obtain ⟨y0, y1, y2, y3, e0, e3, a1, a2, a3⟩ := hys
      have HY := Lib.hid (And.intro e0 e3)
      clear e0 e3 hlx
      have Hnx := Lib.hid hnx
      obtain ⟨U, hU⟩ : ∃ U, U = wr.alloc (.cells #[.string ⟨k.toArray⟩, .bool qg, .slice qA qn qc] 119) := ⟨_, rfl⟩
      have pB : Pu wr U := by rw [hU]; exact (Pu.refl _).alloc _
      have kB : Blk U wr.heap.size 119 #[.string ⟨k.toArray⟩, .bool qg, .slice qA qn qc] := by rw [hU]; exact Blk.new _ _ _
      have HU := Lib.hid hU
      have hwi : IntKind.i64.wrap ((i : Int) + 1) = (i : Int) + 1 := IntWalk.i64_in _ (by omega)
      have hqU := hq4.pu pB
      have hBU := hB.pu pB
      have hFU := hF.pu pB
      have hstr : ∀ V, Pu U V → Calls Tryz.prog 56 #[.agg #[.bool qg, .slice qA qn qc]] V fun e w' => e = .returned (.string y0) ∧ Pu V w' := fun V p => by
        rw [HY.out.1]
        exact string_any _ z _ (hqU.pu p) Hzb.out
      have hwrt : ∀ V, Pu U V → Calls Tryz.prog 65 #[.pointer (some ⟨w.heap.size + 1, 0, none⟩), .string y3] V fun e w' => (∃ x y, e = .returned (.tuple #[x, y])) ∧ Bld w' (w.heap.size + 1) Wp.heap.size (ftext (fs.take (i + 1))) ∧ Fr (fun j => j = w.heap.size + 1 ∨ Wp.heap.size ≤ j) V w' := fun V p => by
        rw [HY.out.2, Hnx.out]
        exact bld_write _ _ _ _ _ (hBU.pu p) (Nat.le_trans hsr (Nat.le_trans pB.size p.size)) Hwr.out
      have Hwrt := Lib.hid hwrt
      have Hstr := Lib.hid hstr
      clear hwrt
      clear hstr
      clear hU hp hgi hnx hS4 hq hq4 hB hF l1
      go_wp2_with fail
      rw [← HU.out]
      have hP : Pu U U.drew := (Pu.refl U).drew
      have d0 : U.cell? ⟨wr.heap.size, 0, none⟩ = some (.string ⟨k.toArray⟩) := kB.cell 0
      have d1 : U.cell? ⟨wr.heap.size, 1, none⟩ = some (.bool qg) := kB.cell 1
      have d2 : U.cell? ⟨wr.heap.size, 1 + 1, none⟩ = some (.slice qA qn qc) := kB.cell 2
      go_region_with (first
        | (go_at_call 56; refine (Hstr.out _ hP).mono ?_; rintro e u2 ⟨rfl, p9⟩; replace hP := hP.trans p9; replace d0 := (kB.pu hP).cell 0; replace d1 := (kB.pu hP).cell 1; replace d2 := (kB.pu hP).cell 2)
        | (go_at_call 65; refine (Hwrt.out _ hP).mono ?_; rintro e u3 ⟨⟨x5, x6, rfl⟩, hB9, hF9⟩))
      all_goals
        have hF7 := (hFU.pu hP).step hF9 (fun j hj => hj)
        clear hFU hP hF9 hBU
        go_wp2
        go_roundw
        case rel => exact ⟨i + 1, by omega, rfl, hB9, hF7⟩
        case measure => simp [intOf]; omega
    · obtain rfl : i = n4 := by omega
      have hfs : fs.take i = fs := List.take_of_length_le (by rw [← hHG.1]; omega)
      rw [hfs] at hB
      have hPw : Pu w wr := PW.step hF (fun j hj => by omega)
      have hys : ∃ y0 y1 y2 : ByteArray, y0 = ⟨(ftext fs).toArray⟩ ∧ y1 = ⟨(ztext rest).toArray⟩ ∧ y2 = ⟨(ttext rest fs).toArray⟩ ∧ (∀ V, (Op.stringOp .add y0 y1).run Tryz.prog V = .ok (.string y2) V) := by
        refine ⟨_, _, _, rfl, rfl, rfl, fun V => ?_⟩
        have hl1 := HH.out.2.2
        have hl2 := ztext_len HH.out.1
        rw [run_string_add_sum V _ _ (by simp [ByteArray.size]; omega), ByteArray.mk_append_mk]
        rfl
      obtain ⟨y0, y1, y2, e0, e1, e2, a1⟩ := hys
      have HY := Lib.hid (And.intro e0 (And.intro e1 e2))
      clear e0 e1 e2
      have d0 : wr.cell? ⟨w.heap.size, 0, none⟩ = some (.bool g) := l1.cell 0
      have d1 : wr.cell? ⟨w.heap.size, 1, none⟩ = some (.slice A n c) := l1.cell 1
      have hlow : w.heap.size + 1 ≤ wr.heap.size := by omega
      have hQ : Below (w.heap.size + 1) wr wr.drew := ⟨rfl, rfl, rfl, Nat.le_refl _, fun k hk => rfl⟩
      have hP : Pu wr wr.drew := (Pu.refl wr).drew
      have hstr : ∀ V, Below (w.heap.size + 1) wr V → Calls Tryz.prog 56 #[.agg #[.bool g, .slice A n c]] V fun e w' => e = .returned (.string y1) ∧ Pu V w' := fun V p => by
        rw [HY.out.2.1]
        exact string_any _ rest _ (Hz.out.pu (hPw.step (S := fun j => w.heap.size + 1 ≤ j) ⟨p.os, p.tape, p.output, p.size, fun k hk hn => p.block k (by omega)⟩ (fun j hj => by omega))) HH.out.1
      have hbst : ∀ V, Pu wr V → Calls Tryz.prog 66 #[.pointer (some ⟨w.heap.size + 1, 0, none⟩)] V fun e w' => e = .returned (.string y0) ∧ Below (w.heap.size + 1) V w' := fun V p => by
        rw [HY.out.1]
        exact Tryz.Builder_String_any _ _ _ _ (hB.pu p).is (Nat.le_trans (by omega) p.size)
      have Hstr := Lib.hid (And.intro hstr hbst)
      clear hstr hbst hB hF
      go_wp2_with fail
      go_region_with (first
        | (go_at_call 66; refine (Hstr.out.2 _ hP).mono ?_; rintro e u2 ⟨rfl, p9⟩; replace hQ := hQ.trans p9; replace d0 := low_cell hQ l1 (by omega) 0; replace d1 := low_cell hQ l1 (by omega) 1)
        | (go_at_call 56; refine (Hstr.out.1 _ hQ).mono ?_; rintro e u3 ⟨rfl, p10⟩; replace hQ := low_pu hQ p10 hlow))
      all_goals
        go_wp2
        go_ret
        exact ⟨congrArg (fun b => Ending.returned (.string b)) HY.out.2.2, hPw.step (S := fun j => w.heap.size + 1 ≤ j) ⟨hQ.os, hQ.tape, hQ.output, hQ.size, fun k hk hn => hQ.block k (by omega)⟩ (fun j hj => by omega)⟩
end
section
set_option linter.unusedVariables false
open Go.RowKit
theorem Keep4 {U V : World} {p0 p1 p2 p3 : Addr} {v0 v1 v2 v3 : Value} (h0 : U.cell? p0 = some v0) (h1 : U.cell? p1 = some v1) (h2 : U.cell? p2 = some v2) (h3 : U.cell? p3 = some v3) (p : Pu U V) :
    V.cell? p0 = some v0 ∧ V.cell? p1 = some v1 ∧ V.cell? p2 = some v2 ∧ V.cell? p3 = some v3 := ⟨p.cellv h0, p.cellv h1, p.cellv h2, p.cellv h3⟩
def exM (r : Int) (fs : List (Key × Int)) (n : Int) : Bool := decide (r % n = 0) && fs.all fun f => decide (f.2 % n = 0)
theorem exM_next {r n : Int} {fs : List (Key × Int)} {i : Nat} {f : Key × Int} (h : fs[i]? = some f) : exM r (fs.take (i + 1)) n = (exM r (fs.take i) n && decide (f.2 % n = 0)) := by
  unfold exM
  rw [List.take_add_one, h, List.all_append, Bool.and_assoc]
  simp
theorem divM_next {n : Int} {fs : List (Key × Int)} (hr : Rise fs) {i : Nat} {k : Key} {z : Int} (h : fs[i]? = some (k, z)) : divM (fs.take (i + 1)) n = putM (divM (fs.take i) n) k (z / n) := by
  rw [putM_last]
  · unfold divM
    rw [List.take_add_one, h, List.map_append]
    rfl
  · intro p hp
    obtain ⟨q, hq, rfl⟩ := List.mem_map.1 hp
    obtain ⟨j, hj⟩ := List.getElem?_of_mem hq
    rw [List.getElem?_take] at hj
    split at hj
    · rename_i hji
      exact rise_lt hr hj h hji
    · cases hj
theorem sign_zero (z : Int) : (z.sign == 0) = decide (z = 0) := by
  rw [Bool.eq_iff_iff]
  simp
structure LiesT (u V : World) (base P b : Nat) (g : Bool) (A : Option Addr) (n c : Nat) : Prop where
  blk : Blk V P 33 #[.bool g, .slice A n c, .pointer (some ⟨b, 0, none⟩)]
  mo : MOZ V base b none []
  pu : Pu u V
  ge : u.heap.size ≤ P
theorem name_it {p : World → Nat → Prop} {V : World} {P : Nat} (h : p V P) : ∃ Z Q, Z = V ∧ Q = P ∧ p Z Q := ⟨V, P, rfl, rfl, h⟩
theorem MOZ.ne_blk {w : World} {base b a : Nat} {r : Option Nat} {L : List (Key × Part)} {cs : Array Value} (h : MOZ w base b r L) (k : Blk w a 33 cs) : a ≠ b := by
  obtain ⟨A, n, c, k1, _⟩ := h
  exact k.ne_ k1 (by decide)
theorem MOZ.ne_any {w : World} {base b a : Nat} {t : TypeId} {r : Option Nat} {L : List (Key × Part)} {cs : Array Value} (h : MOZ w base b r L) (k : Blk w a t cs) (ht : t ≠ 126) : a ≠ b := by
  obtain ⟨A, n, c, k1, _⟩ := h
  exact k.ne_ k1 ht
theorem liesT_new {u v : World} {base b : Nat} {g : Bool} {A : Option Addr} {n c : Nat} (hP : Pu u v) (hm : MOZ v base b none []) : LiesT u (v.alloc (.cells #[.bool g, .slice A n c, .pointer (some ⟨b, 0, none⟩)] 33)) base v.heap.size b g A n c :=
  ⟨Blk.new _ _ _, hm.pu ((Pu.refl _).alloc _), hP.alloc _, hP.size⟩
theorem liesT_old {u v : World} {base b a : Nat} {g : Bool} {A : Option Addr} {n c : Nat} (hP : Pu u v) (hm : MOZ v base b none []) (k : Blk v a 33 #[.bool false, .slice none 0 0, .pointer none]) (ha : u.heap.size ≤ a) : LiesT u (((v.setCell ⟨a, 0, none⟩ (.bool g)).setCell ⟨a, 1, none⟩ (.slice A n c)).setCell ⟨a, 2, none⟩ (.pointer (some ⟨b, 0, none⟩))) base a b g A n c := by
  obtain ⟨kB, fB, tB⟩ := over_t k g A n c (some ⟨b, 0, none⟩)
  have hne := hm.ne_blk k
  refine ⟨kB, hm.fr fB (fun e => hne (by
    have e' : b = a := e
    exact e'.symm)) (fun g hg => by cases hg), hP.step fB (fun i e => by
    have e' : i = a := e
    omega), ha⟩
set_option maxHeartbeats 16000000 in
set_option maxRecDepth 100000 in
theorem tdivide_any (v1 v2 : Value) (r n : Int) (fs : List (Key × Int)) (w : World) (h1 : TM w v1 r fs) (h2 : ZR w v2 n) (hn : n ≠ 0)
    (hr : r.natAbs < 4294967296 ^ 30000) (hg : ∀ g ∈ fs, g.2.natAbs < 4294967296 ^ 30000) (hnb : n.natAbs < 4294967296 ^ 30000) (hlen : fs.length < 30000) :
    Calls Tryz.prog 150 #[v1, v2] w fun e w' => ∃ g A n' c m code, e = .returned (.tuple #[.agg #[.bool g, .slice A n' c, .pointer m], .int .i64 code]) ∧ (exM r fs n = true → code = 0 ∧ TMO w' w.heap.size (.agg #[.bool g, .slice A n' c, .pointer m]) (r / n) (divM fs n)) ∧ (exM r fs n = false → code = 12) ∧ Pu w w' := by
  have hrise := h1.rise.1
  obtain ⟨g1, A1, n1, c1, m1, rfl⟩ := h1.shape
  obtain ⟨g2, A2, n2, c2, rfl⟩ := h2.shape2
  obtain ⟨W, hWe⟩ : ∃ W, W = ((w.alloc (.cells #[.bool g1, .slice A1 n1 c1, .pointer m1] 33)).alloc (.cells #[.bool g2, .slice A2 n2 c2] 30)).alloc (.cells #[.bool false, .slice none 0 0, .pointer none] 33) := ⟨_, rfl⟩
  have pW : Pu w W := by rw [hWe]; exact (((Pu.refl w).alloc _).alloc _).alloc _
  have k1 : Blk W w.heap.size 33 #[.bool g1, .slice A1 n1 c1, .pointer m1] := by rw [hWe]; exact ((Blk.new w _ _).alloc _).alloc _
  have k2 : Blk W (w.heap.size + 1) 30 #[.bool g2, .slice A2 n2 c2] := by rw [hWe]; exact (Blk.at_new _ _ _ (by simp)).alloc _
  have k3 : Blk W (w.heap.size + 2) 33 #[.bool false, .slice none 0 0, .pointer none] := by rw [hWe]; exact Blk.at_new _ _ _ (by simp)
  have hsz : W.heap.size = w.heap.size + 3 := by rw [hWe]; simp
  have up : ∀ {z : Int}, z.natAbs < 4294967296 ^ 30000 → z.natAbs < 4294967296 ^ 40000 := fun {z} h => up_from (n := z.natAbs) (a := 30000) (b := 40000) h (by decide)
  have H1 := Lib.hid (h1.pu pW)
  have H2 := Lib.hid (h2.pu pW)
  have hdm : ∀ (V : World) (v : Value) (z : Int), Pu W V → ZR V v z → z.natAbs < 4294967296 ^ 30000 → Calls Tryz.prog 154 #[v, .agg #[.bool g2, .slice A2 n2 c2]] V fun e w' => ∃ v3 v4, e = .returned (.tuple #[v3, v4, .int .i64 0]) ∧ ZR w' v3 (z / n) ∧ ZR w' v4 (z % n) ∧ Pu V w' := fun V v z p hz hb =>
    divmod_any _ _ z n V hz (H2.out.pu p) (up hb) (up hnb) hn (div_ok _ _ (by omega))
  have hsg : ∀ (V : World) (v : Value) (z : Int), ZR V v (z % n) → Calls Tryz.prog 15 #[v] V fun e w' => e = .returned (.int .i64 (z % n).sign) ∧ Pu V w' := fun V v z hz =>
    sign_any _ _ V hz (up (Nat.lt_of_le_of_lt (by have := Int.emod_nonneg z hn; have := Int.emod_lt z hn; omega) hnb))
  have hs0 : ∀ V, Pu W V → Calls Tryz.prog 15 #[.agg #[.bool g2, .slice A2 n2 c2]] V fun e w' => e = .returned (.int .i64 n.sign) ∧ Pu V w' := fun V p => sign_any _ _ V (H2.out.pu p) (up hnb)
  have hsn : (n.sign == 0) = false := by rw [sign_zero]; simpa using hn
  have HD := Lib.hid (And.intro hdm (And.intro hsg hs0))
  have HWe := Lib.hid hWe
  have HR := Lib.hid hrise
  have HH := Lib.hid (And.intro hr (And.intro hg hlen))
  clear hWe h1 h2 hdm hsg hs0 hrise up hr hg hnb hlen
  go_enter Tryz.func150, Tryz.ntmps150
  go_wp2_with fail
  rw [← HWe.out]
  refine (HD.out.2.2 _ (Pu.refl _)).mono ?_
  rintro e w1 ⟨rfl, p1⟩
  have c0 := (k1.pu p1).cell 0
  have c1 := (k1.pu p1).cell 1
  have e0 := (k2.pu p1).cell 0
  have e1 := (k2.pu p1).cell 1
  generalize n.sign = sg at *
  go_wp2_with fail
  refine (HD.out.1 _ _ r p1 (H1.out.rest_.pu p1) HH.out.1).mono ?_
  rintro e w2 ⟨v3, v4, rfl, hq, hm, p2⟩
  obtain ⟨gq, Aq, nq, cq, rfl⟩ := hq.shape2
  obtain ⟨gm, Am, nm, cm, rfl⟩ := hm.shape2
  have P2 := p1.trans p2
  obtain ⟨U, hU⟩ : ∃ U, U = (w2.alloc (.cells #[.bool gq, .slice Aq nq cq] 30)).alloc (.cells #[.bool gm, .slice Am nm cm] 30) := ⟨_, rfl⟩
  have pU : Pu w2 U := by rw [hU]; exact ((Pu.refl _).alloc _).alloc _
  have kq : Blk U w2.heap.size 30 #[.bool gq, .slice Aq nq cq] := by rw [hU]; exact (Blk.new w2 _ _).alloc _
  have km : Blk U (w2.heap.size + 1) 30 #[.bool gm, .slice Am nm cm] := by rw [hU]; exact Blk.at_new _ _ _ (by simp)
  have hsU : w2.heap.size + 2 ≤ U.heap.size := by rw [hU]; simp
  have hq5 := hq.pu pU
  have hm5 := hm.pu pU
  have PU := P2.trans pU
  have HU := Lib.hid hU
  clear hU c0 c1 e0 e1 hq hm p1 p2
  go_wp2_with fail
  rw [← HU.out]
  have d0 : U.cell? ⟨w2.heap.size, 0, none⟩ = some (.bool gq) := kq.cell 0
  have d1 : U.cell? ⟨w2.heap.size, 1, none⟩ = some (.slice Aq nq cq) := kq.cell 1
  have d2 : U.cell? ⟨w2.heap.size + 1, 0, none⟩ = some (.bool gm) := km.cell 0
  have d3 : U.cell? ⟨w2.heap.size + 1, 1, none⟩ = some (.slice Am nm cm) := km.cell 1
  have hP : Pu U U.drew := (Pu.refl U).drew
  go_region_held3 (fun t => t.cell? ⟨w2.heap.size, 0, none⟩ = some (.bool gq) ∧ t.cell? ⟨w2.heap.size, 1, none⟩ = some (.slice Aq nq cq) ∧ t.cell? ⟨w2.heap.size + 1, 0, none⟩ = some (.bool gm) ∧ t.cell? ⟨w2.heap.size + 1, 1, none⟩ = some (.slice Am nm cm))
    (first | exact Keep4 d0 d1 d2 d3 (by repeat' (first | with_reducible exact hP | with_reducible exact Pu.refl _ | with_reducible refine Pu.drew ?_ | with_reducible refine Pu.alloc ?_ _ | with_reducible refine Pu.setCell ?_ ?_ _ | (dsimp only; omega))) | go_keep)
    (first
      | (go_at_call 47; refine (newZ _).mono ?_; rintro e u2 ⟨b, rfl, hmo, p9⟩; with_reducible (first | (have bA := (Blk.new U 33 #[.bool false, .slice none 0 0, .pointer none]).drew.pu p9) | (have bA := (Blk.new U.drew 33 #[.bool false, .slice none 0 0, .pointer none]).pu p9) | skip); replace hP := Pu.trans (a := U) (by with_reducible first | exact hP | exact hP.alloc _ | exact Pu.drew (Pu.alloc (Pu.refl _) _)) p9; have z12 := hP.size; (try (have ka0 := bA.cell 0; have ka1 := bA.cell 1; have ka2 := bA.cell 2; have kf0 := bA.frozen 0; have kf1 := bA.frozen 1; have kf2 := bA.frozen 2)))
      | (go_at_call 15; refine (HD.out.2.1 _ _ r (hm5.pu (by with_reducible first | exact hP | exact hP.alloc _))).mono ?_; rintro e u3 ⟨rfl, p10⟩; with_reducible (first | (replace bA := bA.pu p10) | (have bA := (Blk.new u2 33 #[.bool false, .slice none 0 0, .pointer none]).pu p10) | skip); replace hP := Pu.trans (a := U) (by with_reducible first | exact hP | exact hP.alloc _) p10; have z13 := hP.size; with_reducible (first | (replace hmo := hmo.pu p10) | (replace hmo := (hmo.pu ((Pu.refl _).alloc _)).pu p10)); (try clear ka0 ka1 ka2 kf0 kf1 kf2); (try (have ka0 := bA.cell 0; have ka1 := bA.cell 1; have ka2 := bA.cell 2; have kf0 := bA.frozen 0; have kf1 := bA.frozen 1; have kf2 := bA.frozen 2))))
  all_goals
    first
      | have HS := liesT_old (g := gq) (A := Aq) (n := nq) (c := cq) hP (hmo.base_ (base' := U.heap.size) (by first | exact Nat.le_refl _ | (simp; done) | (simp; omega))) bA (by first | exact Nat.le_refl _ | omega)
      | have HS := liesT_new (g := gq) (A := Aq) (n := nq) (c := cq) hP (hmo.base_ (base' := U.heap.size) (by first | exact Nat.le_refl _ | (simp; done) | (simp; omega)))
    obtain ⟨Z, P, hZ, hPq, HS⟩ := name_it (p := fun V P => LiesT U V U.heap.size P b gq Aq nq cq) HS
    rw [← hZ, ← hPq]
    have PZ := PU.trans HS.pu
    have j1 := k1.pu PZ
    have j2 := k2.pu PZ
    have j3 := k3.pu PZ
    have jP := HS.blk
    have jm := HS.mo
    have jz := hq5.pu HS.pu
    have hUP := HS.ge
    have hx0 : ((r % n).sign == 0) = exM r (fs.take 0) n := by rw [sign_zero]; simp [exM]
    have hblt := jm.lt
    rw [hx0]
    clear hx0 HS hZ hPq hP d0 d1 d2 d3 hm5 hq5 kq km k1 k2 k3 hmo
    (try clear bA)
    have hpr := tpairs_any _ r fs Z (H1.out.pu PZ)
    have b0 := j1.cell 0
    have b1 := j1.cell 1
    have b2 := j1.cell 2
    generalize hxx : exM r (fs.take 0) n = x0
    have Hxx := Lib.hid hxx
    clear hxx
    go_wp2_with fail
    refine hpr.mono ?_
    rintro e Wp ⟨A4, n4, c4, LG, rfl, hSl, hn4, hHG, hB4, p2⟩
    have hLG : LG.length = n4 := lenZ hSl
    have PW := PZ.trans p2
    have l1 := j1.pu p2
    have l2 := j2.pu p2
    have l3 := j3.pu p2
    have lP := jP.pu p2
    have lm := jm.pu p2
    have lz := jz.pu p2
    have hZs := p2.size
    have hsW := PW.size
    clear b0 b1 b2 hpr j1 j2 j3 jP jm jz p2
    go_wp2_with fail
    go_loopw [10, 37] (fun xv iv ws => ∃ (i : Nat) (r' : Option Nat) (L : List (Key × Part)) (x : Bool), i ≤ n4 ∧ xv = .bool x ∧ x = exM r (fs.take i) n ∧ iv = .int .i64 (i : Int) ∧ MOZ ws U.heap.size b r' L ∧ HoldM ws L (divM (fs.take i) n) ∧ (r' = none ∨ ∃ g, r' = some g ∧ Wp.heap.size ≤ g) ∧ Fr (fun j => j = b) Wp ws) (fun _ iv _ => n4 - (intOf iv).toNat)
    case atStart => exact ⟨0, none, [], x0, Nat.zero_le _, rfl, Hxx.out.symm, rfl, lm, HoldM.nil _, .inl rfl, Fr.refl _ _⟩
    case round =>
      obtain ⟨i, r', L, x, hi, rfl, hx, rfl, hmo4, hho4, hrr, hF⟩ := hrel
      have hLi : L.length ≤ i := by
        have := hho4.1
        simp [divM] at this
        omega
      have hbP := lm.ne_blk lP
      have hb3 := lm.ne_blk l3
      have hS4 : Sl wr 3 A4 n4 c4 (kps vcZ LG) := hSl.fr hF (fun _ b' off e hS => by
        have h5 := hB4 b' off e
        omega)
      have Hx := Lib.hid hx
      have hty := lm.typed
      have mP := lP.fr hF hbP
      have m2 := l2.fr hF (lm.ne_any l2 (by decide))
      have m3 := l3.fr hF hb3
      have mz := lz.frT hF (fun g hg => hty g (.inl hg))
      have hsr := hF.size
      clear hx
      by_cases hil : i < n4
      · obtain ⟨p, hp⟩ : ∃ p, LG[i]? = some p := ⟨_, List.getElem?_eq_getElem (by omega)⟩
        obtain ⟨gg, hgi⟩ : ∃ g, fs[i]? = some g := ⟨_, List.getElem?_eq_getElem (by rw [← hHG.1]; omega)⟩
        obtain ⟨k, qg, qA, qn, qc⟩ := p
        obtain ⟨k', z⟩ := gg
        obtain ⟨ek, hqz⟩ := hHG.2 i _ _ hp hgi
        dsimp only at ek hqz
        subst ek
        obtain ⟨bb, off, rfl, hbl, x0', x1, x2⟩ := atZ hS4 hp
        have hq4 := hqz.frT hF (fun g hg => hty g (.inl hg))
        have Hzb := Lib.hid (HH.out.2.1 _ (List.mem_of_getElem? hgi))
        have Hex := Lib.hid (exM_next (r := r) (n := n) hgi)
        have Hdv := Lib.hid (divM_next (n := n) HR.out hgi)
        have hwi : IntKind.i64.wrap ((i : Int) + 1) = (i : Int) + 1 := IntWalk.i64_in _ (by omega)
        have pA : Pu wr (wr.alloc (.cells #[.string ⟨k.toArray⟩, .bool qg, .slice qA qn qc] 119)) := (Pu.refl _).alloc _
        have kA : Blk (wr.alloc (.cells #[.string ⟨k.toArray⟩, .bool qg, .slice qA qn qc] 119)) wr.heap.size 119 #[.string ⟨k.toArray⟩, .bool qg, .slice qA qn qc] := Blk.new _ _ _
        have f0 := (m2.pu pA).cell 0
        have f1 := (m2.pu pA).cell 1
        have pWr : Pu W wr := PW.step hF (fun j hj => by
          have e' : j = b := hj
          have := PU.size
          omega)
        have hF0 := hF
        clear hp hgi hqz hS4 hF
        go_wp2_with fail
        refine (HD.out.1 _ _ z (pWr.trans pA) (hq4.pu pA) Hzb.out).mono ?_
        rintro e u1 ⟨v5, v6, rfl, h5, h6, q1⟩
        obtain ⟨g5, A5, m5, c5, rfl⟩ := h5.shape2
        obtain ⟨g6, A6, m6, c6, rfl⟩ := h6.shape2
        obtain ⟨V, hV⟩ : ∃ V, V = (u1.alloc (.cells #[.bool g5, .slice A5 m5 c5] 30)).alloc (.cells #[.bool g6, .slice A6 m6 c6] 30) := ⟨_, rfl⟩
        have pV : Pu u1 V := by rw [hV]; exact ((Pu.refl _).alloc _).alloc _
        have kq : Blk V u1.heap.size 30 #[.bool g5, .slice A5 m5 c5] := by rw [hV]; exact (Blk.new u1 _ _).alloc _
        have km : Blk V (u1.heap.size + 1) 30 #[.bool g6, .slice A6 m6 c6] := by rw [hV]; exact Blk.at_new _ _ _ (by simp)
        have pAV := (pA.trans q1).trans pV
        have hV5 := h5.pu pV
        have hV6 := h6.pu pV
        have kAV := (kA.pu q1).pu pV
        have kPV := mP.pu pAV
        have hmoV := hmo4.pu pAV
        have hhoV := hho4.pu pAV
        have hHV := Lib.hid hV
        have e0 := km.cell 0
        have e1 := km.cell 1
        have e2 := kq.cell 0
        have e3 := kq.cell 1
        have e4 := kAV.cell 0
        have e5 := kPV.cell 2
        have hsV := pAV.size
        rw [hV] at e0 e1 e2 e3 e4 e5
        clear hV f0 f1 h5 h6 kA hho4 hmo4 m2 mP x0' x1 x2 hq4
        have hF1 := hF0.pu pAV
        have hstep : ∀ (u4 u5 : World) (rr : Option Nat), Pu V u4 → Fr (fun j => j = b ∨ r' = some j) u4 u5 → (rr = r' ∨ ∃ g, rr = some g ∧ u4.heap.size ≤ g) → Fr (fun j => j = b) Wp u5 ∧ (rr = none ∨ ∃ g, rr = some g ∧ Wp.heap.size ≤ g) := fun u4 u5 rr p f h => by
          refine ⟨(hF1.pu p).step f (fun j hj => ?_), ?_⟩
          · rcases hj with hj | hj
            · exact .inl hj
            · rcases hrr with e | ⟨g', e, hge⟩
              · rw [e] at hj
                cases hj
              · rw [e] at hj
                have e' : g' = j := by injection hj
                exact .inr (by omega)
          · rcases h with e | ⟨g', e, hge⟩
            · rw [e]
              exact hrr
            · have := p.size
              exact .inr ⟨g', e, by omega⟩
        have Hstep := Lib.hid hstep
        have hput : ∀ u4, Pu V u4 → Calls Tryz.prog 21 #[.pointer (some ⟨b, 0, none⟩), .string ⟨k.toArray⟩, .agg #[.bool g5, .slice A5 m5 c5]] u4 fun e w' => e = .returned (.bool (!there L k)) ∧ ∃ rr, MOZ w' U.heap.size b rr (putM L k (g5, A5, m5, c5)) ∧ HoldM w' (putM L k (g5, A5, m5, c5)) (divM (fs.take (i + 1)) n) ∧ Fr (fun j => j = b) Wp w' ∧ (rr = none ∨ ∃ g, rr = some g ∧ Wp.heap.size ≤ g) := fun u4 p => by
          refine (putZ U.heap.size b r' L k (g5, A5, m5, c5) u4 (hmoV.pu p) (by omega)).mono ?_
          rintro e w' ⟨e1, rr, hmo8, hrr8, f8⟩
          obtain ⟨a1, a2⟩ := Hstep.out _ _ _ p f8 hrr8
          refine ⟨e1, rr, hmo8, ?_, a1, a2⟩
          rw [Hdv.out]
          exact (HoldM.put (k := k) (q := (g5, A5, m5, c5)) (hhoV.pu p) (hV5.pu p)).frT f8 (hmoV.pu p).typed
        have hsgn := HD.out.2.1 V _ z hV6
        have Hsgn := Lib.hid hsgn
        have Hput := Lib.hid hput
        have Kq := Lib.hid (And.intro kq (And.intro kAV kPV))
        clear hsgn hput hstep hF1 hF0 hV5 hV6 hhoV hmoV kq km kAV kPV hrr
        rcases x with _ | _
        · have Hput2 := Lib.hid (Hput.out V (Pu.refl _))
          rw [hHV.out] at Hput2
          have Hxn : Hid (exM r (fs.take (i + 1)) n = false) := Lib.hid (by rw [Hex.out, ← Hx.out]; rfl)
          go_wp2_with fail
          refine Hput2.out.mono ?_
          rintro e u5 ⟨rfl, rr, hmo8, hho8, hF8, hrr8⟩
          go_wp2
          go_roundw
          case rel => exact ⟨i + 1, rr, _, false, by omega, rfl, Hxn.out.symm, rfl, hmo8, hho8, hrr8, hF8⟩
          case measure => simp [intOf]; omega
        · rw [hHV.out] at Hsgn
          have Hxn : Hid (exM r (fs.take (i + 1)) n = ((z % n).sign == 0)) := Lib.hid (by rw [Hex.out, ← Hx.out, sign_zero]; rfl)
          go_wp2_with fail
          refine Hsgn.out.mono ?_
          rintro e u4 ⟨rfl, q4⟩
          rw [← hHV.out] at q4
          have y0 := (Kq.out.1.pu q4).cell 0
          have y1 := (Kq.out.1.pu q4).cell 1
          have y2 := (Kq.out.2.1.pu q4).cell 0
          have y3 := (Kq.out.2.2.pu q4).cell 2
          clear e0 e1 e2 e3 e4 e5
          go_wp2_with fail
          refine (Hput.out _ q4).mono ?_
          rintro e u5 ⟨rfl, rr, hmo8, hho8, hF8, hrr8⟩
          go_wp2
          go_roundw
          case rel => exact ⟨i + 1, rr, _, ((z % n).sign == 0), by omega, rfl, Hxn.out.symm, rfl, hmo8, hho8, hrr8, hF8⟩
          case measure => simp [intOf]; omega
      · obtain rfl : i = n4 := by omega
        have hfs : fs.take i = fs := List.take_of_length_le (by rw [← hHG.1]; omega)
        rw [hfs] at hho4 Hx
        have a0 := m3.cell 0
        have a1 := m3.cell 1
        have a2 := m3.cell 2
        have z0 := m3.frozen 0
        have z1 := m3.frozen 1
        have z2 := m3.frozen 2
        have b0 := mP.cell 0
        have b1 := mP.cell 1
        have b2 := mP.cell 2
        have hPw : Pu w wr := (pW.trans PW).step hF (fun j hj => by
          have e' : j = b := hj
          have := PU.size
          omega)
        have hbase : w.heap.size ≤ U.heap.size := by
          have := PU.size
          omega
        rcases x with _ | _
        · obtain ⟨kB, fB, tB⟩ := over_t m3 false none 0 0 none
          have r0 := kB.cell 0
          have r1 := kB.cell 1
          have r2 := kB.cell 2
          have HF := Lib.hid (hPw.step fB (fun j hj => by
            have e' : j = w.heap.size + 2 := hj
            omega))
          clear kB fB tB hPw hho4 hmo4 hF m2 m3 mP mz hS4
          go_wp2
          exact bodyPost_ret (v := .tuple #[.agg #[.bool false, .slice none 0 0, .pointer none], .int .i64 12]) (by simp [results, Tryz.results150, go_sem, r0, r1, r2]) rfl ⟨_, _, _, _, _, _, rfl, fun e => (by rw [← Hx.out] at e; cases e), fun _ => rfl, HF.out⟩
        · obtain ⟨kB, fB, tB⟩ := over_t m3 gq Aq nq cq (some ⟨b, 0, none⟩)
          have r0 := kB.cell 0
          have r1 := kB.cell 1
          have r2 := kB.cell 2
          have HF := Lib.hid (And.intro (hPw.step fB (fun j hj => by
            have e' : j = w.heap.size + 2 := hj
            omega)) (And.intro (mz.frT fB tB) (And.intro ((hmo4.fr fB (fun e => hb3 (by
              have e' : b = w.heap.size + 2 := e
              exact e'.symm)) (fun j hj e => by
              rcases hrr with h | ⟨g', h, hge⟩
              · rw [h] at hj
                cases hj
              · rw [h] at hj
                have e1 : g' = j := by injection hj
                have e' : j = w.heap.size + 2 := e
                have := PU.size
                omega)).base_ hbase) (hho4.frT fB tB))))
          clear kB fB tB hPw hho4 hmo4 hF m2 m3 mP mz hS4
          go_wp2
          exact bodyPost_ret (v := .tuple #[.agg #[.bool gq, .slice Aq nq cq, .pointer (some ⟨b, 0, none⟩)], .int .i64 0]) (by simp [results, Tryz.results150, go_sem, r0, r1, r2]) rfl ⟨_, _, _, _, _, _, rfl, fun e => ⟨rfl, ⟨gq, Aq, nq, cq, b, _, _, rfl, HF.out.2.1, HF.out.2.2.1, HF.out.2.2.2⟩⟩, fun e => (by rw [← Hx.out] at e; cases e), HF.out.1⟩
end
end Go.Proofs.YtckfnbckoclhpaaGreatDoor
