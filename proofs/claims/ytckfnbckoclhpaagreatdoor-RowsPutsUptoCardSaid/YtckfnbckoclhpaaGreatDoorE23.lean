/- Terms and rows: Same. Rows: Same of two rows of rows. Rows: Split. -/
import Derived.Test.YtckfnbckoclhpaaGreatDoorE20
import Derived.Test.YtckfnbckoclhpaaGreatDoorE15
import Derived.Test.YtckfnbckoclhpaaGreatDoorC07
import Derived.Test.YtckfnbckoclhpaaGreatDoorE13
namespace Go.Proofs.YtckfnbckoclhpaaGreatDoor
section
set_option linter.unusedVariables false
open Go.RowKit
set_option maxHeartbeats 2000000 in
set_option maxRecDepth 100000 in
theorem sameT_any (v1 v2 : Value) (r1 r2 : Int) (fs1 fs2 : List (Key × Int)) (w : World) (h1 : TM w v1 r1 fs1) (h2 : TM w v2 r2 fs2) (s1 : Sml ⟨r1, fs1, true⟩) (s2 : Sml ⟨r2, fs2, true⟩) :
    Calls Tryz.prog 42 #[v1, v2] w fun e w' => e = .returned (.bool (decide (ttext r1 fs1 = ttext r2 fs2))) ∧ Pu w w' := by
  obtain ⟨g1, A1, n1, c1, m1, rfl⟩ := h1.shape
  obtain ⟨g2, A2, n2, c2, m2, rfl⟩ := h2.shape
  obtain ⟨W, hWe⟩ : ∃ W, W = (w.alloc (.cells #[.bool g1, .slice A1 n1 c1, .pointer m1] 33)).alloc (.cells #[.bool g2, .slice A2 n2 c2, .pointer m2] 33) := ⟨_, rfl⟩
  have pW : Pu w W := by rw [hWe]; exact ((Pu.refl w).alloc _).alloc _
  have k1 : Blk W w.heap.size 33 #[.bool g1, .slice A1 n1 c1, .pointer m1] := by rw [hWe]; exact (Blk.new w _ _).alloc _
  have k2 : Blk W (w.heap.size + 1) 33 #[.bool g2, .slice A2 n2 c2, .pointer m2] := by rw [hWe]; exact Blk.at_new _ _ _ (by simp)
  have Hs1 := Lib.hid (fun V (p : Pu W V) => tstring_any _ r1 fs1 V ((h1.pu pW).pu p) s1.rest s1.fs s1.text)
  have Hs2 := Lib.hid (fun V (p : Pu W V) => tstring_any _ r2 fs2 V ((h2.pu pW).pu p) s2.rest s2.fs s2.text)
  have HWe := Lib.hid hWe
  have d0 : W.cell? ⟨w.heap.size, 0, none⟩ = some (.bool g1) := k1.cell 0
  have d1 : W.cell? ⟨w.heap.size, 1, none⟩ = some (.slice A1 n1 c1) := k1.cell 1
  have d2 : W.cell? ⟨w.heap.size, 2, none⟩ = some (.pointer m1) := k1.cell 2
  have d3 : W.cell? ⟨w.heap.size + 1, 0, none⟩ = some (.bool g2) := k2.cell 0
  have d4 : W.cell? ⟨w.heap.size + 1, 1, none⟩ = some (.slice A2 n2 c2) := k2.cell 1
  have d5 : W.cell? ⟨w.heap.size + 1, 2, none⟩ = some (.pointer m2) := k2.cell 2
  have hP : Pu W W.drew := (Pu.refl W).drew
  clear hWe h1 h2 s1 s2
  obtain ⟨t1, ht1⟩ : ∃ t, ttext r1 fs1 = t := ⟨_, rfl⟩
  obtain ⟨t2, ht2⟩ : ∃ t, ttext r2 fs2 = t := ⟨_, rfl⟩
  rw [ht1] at Hs1 ⊢
  rw [ht2] at Hs2 ⊢
  clear ht1 ht2
  have hcase : (t1 == t2) = decide (t1 = t2) := by
    by_cases h : t1 = t2
    · simp [h]
    · simp [h]
  go_enter Tryz.func42, Tryz.ntmps42
  go_wp2_with fail
  rw [← HWe.out]
  go_region_held3 (fun t => t.cell? ⟨w.heap.size, 0, none⟩ = some (.bool g1) ∧ t.cell? ⟨w.heap.size, 1, none⟩ = some (.slice A1 n1 c1) ∧ t.cell? ⟨w.heap.size, 2, none⟩ = some (.pointer m1) ∧ t.cell? ⟨w.heap.size + 1, 0, none⟩ = some (.bool g2) ∧ t.cell? ⟨w.heap.size + 1, 1, none⟩ = some (.slice A2 n2 c2) ∧ t.cell? ⟨w.heap.size + 1, 2, none⟩ = some (.pointer m2))
      (first | exact Keep6 d0 d1 d2 d3 d4 d5 (by repeat' (first | with_reducible exact hP | with_reducible exact Pu.refl _ | with_reducible refine Pu.drew ?_ | with_reducible refine Pu.alloc ?_ _)) | go_keep)
      (first
        | (go_at_call_of 33 A1; refine (Hs1.out _ hP).mono ?_; rintro e u2 ⟨rfl, p9⟩; replace hP := hP.trans p9)
        | (go_at_call_of 33 A2; refine (Hs2.out _ hP).mono ?_; rintro e u2 ⟨rfl, p9⟩; replace hP := hP.trans p9))
  all_goals
    have HP := Lib.hid (pW.trans hP)
    clear hP
    go_wp2
    go_ret
    exact ⟨by simp, HP.out⟩
theorem Sml.as {r : RowM} (h : Sml r) (b : Bool) : Sml ⟨r.rest, r.fs, b⟩ := ⟨h.rest, h.fs, h.text⟩
set_option maxHeartbeats 2000000 in
set_option maxRecDepth 100000 in
theorem sameR_any (q1 q2 : RawR) (r1 r2 : RowM) (w : World) (h1 : RowIs w q1 r1) (h2 : RowIs w q2 r2) (s1 : Sml r1) (s2 : Sml r2) :
    Calls Tryz.prog 41 #[q1.val, q2.val] w fun e w' => e = .returned (.bool (decide (lookR r1 = lookR r2))) ∧ Pu w w' := by
  obtain ⟨g1, A1, n1, c1, m1, e1⟩ := q1
  obtain ⟨g2, A2, n2, c2, m2, e2⟩ := q2
  obtain ⟨x1, h1⟩ := h1
  obtain ⟨x2, h2⟩ := h2
  unfold RawR.term at h1 h2
  dsimp only at x1 x2 h1 h2
  unfold RawR.val
  dsimp only
  have pW : Pu w ((w.alloc (.cells #[.bool g1, .slice A1 n1 c1, .pointer m1, .bool e1] 35)).alloc (.cells #[.bool g2, .slice A2 n2 c2, .pointer m2, .bool e2] 35)) := ((Pu.refl w).alloc _).alloc _
  have hsame := sameT_any _ _ r1.rest r2.rest r1.fs r2.fs _ (h1.pu pW) (h2.pu pW) (s1.as true) (s2.as true)
  have Hs := Lib.hid hsame
  have hl : decide (lookR r1 = lookR r2) = (decide (ttext r1.rest r1.fs = ttext r2.rest r2.fs) && decide (e1 = e2)) := by
    unfold lookR
    rw [x1, x2, ← Bool.decide_and]
    congr 1
    simp
  rw [hl]
  clear hsame hl h1 h2 x1 x2 s1 s2
  generalize decide (ttext r1.rest r1.fs = ttext r2.rest r2.fs) = o at *
  cases e1 <;> cases e2
  all_goals
    go_enter Tryz.func41, Tryz.ntmps41
    go_wp2_with (first | (go_at_call 42; refine Hs.out.mono ?_; rintro e w2 ⟨rfl, p2⟩; replace pW := pW.trans p2))
    go_ret
    exact ⟨by simp, pW⟩
end
section
set_option linter.unusedVariables false
open Go.RowKit
theorem look_take {l l2 : List RowM} {i : Nat} {r r2 : RowM} (h : l[i]? = some r) (h2 : l2[i]? = some r2) (he : (l.take i).map lookR = (l2.take i).map lookR) (hr : lookR r = lookR r2) : (l.take (i + 1)).map lookR = (l2.take (i + 1)).map lookR := by
  rw [List.take_add_one, List.take_add_one, h, h2, List.map_append, List.map_append, he]
  simp [hr]
theorem look_ne {l l2 : List RowM} {i : Nat} {r r2 : RowM} (h : l[i]? = some r) (h2 : l2[i]? = some r2) (hr : lookR r ≠ lookR r2) : l.map lookR ≠ l2.map lookR := fun e => by
  have := congrArg (fun x : List (Key × Bool) => x[i]?) e
  rw [List.getElem?_map, List.getElem?_map, h, h2] at this
  injection this with this
  exact hr this
set_option maxHeartbeats 2000000 in
set_option maxRecDepth 100000 in
theorem equal_any (A B : Option Addr) (n c m d : Nat) (L L2 : List RawR) (l l2 : List RowM) (w : World) (h1 : SlR w A n c L) (h2 : SlR w B m d L2) (hh1 : HoldR w L l) (hh2 : HoldR w L2 l2) (s1 : ∀ r ∈ l, Sml r) (s2 : ∀ r ∈ l2, Sml r) (hn : n < 4611686018427387904) :
    Calls Tryz.prog 40 #[.slice A n c, .slice B m d, .func (.func 41) #[] #[]] w fun e w' => e = .returned (.bool (decide (l.map lookR = l2.map lookR))) ∧ Pu w w' := by
  have hl1 : L.length = n := h1.len
  have hl2 : L2.length = m := h2.len
  have e1 := hh1.1
  have e2 := hh2.1
  by_cases hnm : n = m
  · subst hnm
    have S1 := Lib.hid s1
    have S2 := Lib.hid s2
    have HL := Lib.hid (And.intro hl1 (And.intro hl2 (And.intro e1 e2)))
    clear s1 s2 hl1 hl2 e1 e2
    go_enter Tryz.func40, Tryz.ntmps40
    go_wp2_with fail
    go_loopw [17] (fun iv wr => ∃ i : Nat, i ≤ n ∧ iv = .int .i64 (i : Int) ∧ Hid ((l.take i).map lookR = (l2.take i).map lookR) ∧ Pu w wr) (fun iv _ => n - (intOf iv).toNat)
    case atStart => exact ⟨0, Nat.zero_le _, rfl, Lib.hid (by simp), Pu.refl _⟩
    case round =>
      obtain ⟨i, hi, rfl, hE, hP⟩ := hrel
      by_cases hlt : i < n
      · obtain ⟨q, hq⟩ : ∃ q, L[i]? = some q := ⟨_, List.getElem?_eq_getElem (by rw [HL.out.1]; exact hlt)⟩
        obtain ⟨q2, hq2⟩ : ∃ q, L2[i]? = some q := ⟨_, List.getElem?_eq_getElem (by rw [HL.out.2.1]; exact hlt)⟩
        obtain ⟨r, hr, hri⟩ := hh1.at_ hq
        obtain ⟨r2, hr2, hri2⟩ := hh2.at_ hq2
        obtain ⟨b, off, rfl, hbl, x0, x1, x2, x3⟩ := SlR.at_ (Sl.pu h1 hP) hq
        obtain ⟨b', off', rfl, hbl', y0, y1, y2, y3⟩ := SlR.at_ (Sl.pu h2 hP) hq2
        have pB : Pu wr ((wr.alloc (.cells #[.bool q.g, .slice q.A q.n q.c, .pointer q.m, .bool q.eq] 35)).alloc (.cells #[.bool q2.g, .slice q2.A q2.n q2.c, .pointer q2.m, .bool q2.eq] 35)) := ((Pu.refl wr).alloc _).alloc _
        have hcall := sameR_any q q2 r r2 _ (hri.pu (hP.trans pB)) (hri2.pu (hP.trans pB)) (S1.out r (List.mem_of_getElem? hr)) (S2.out r2 (List.mem_of_getElem? hr2))
        have Hc := Lib.hid hcall
        have HR := Lib.hid (And.intro hr hr2)
        have hwi : IntKind.i64.wrap ((i : Int) + 1) = (i : Int) + 1 := IntWalk.i64_in _ (by omega)
        have hil : (i : Int) < (n : Int) := by omega
        obtain ⟨qg, qA, qn, qc, qm, qe⟩ := q
        obtain ⟨q2g, q2A, q2n, q2c, q2m, q2e⟩ := q2
        dsimp only at x0 x1 x2 x3 y0 y1 y2 y3 Hc
        unfold RawR.val at Hc
        dsimp only at Hc
        have HPB := Lib.hid (hP.trans pB)
        clear hcall hq hq2 hr hr2 hri hri2 pB hP
        by_cases hlr : lookR r = lookR r2
        · rw [decide_eq_true hlr] at Hc
          have Hlr := Lib.hid hlr
          clear hlr
          go_wp2_with fail
          refine Hc.out.mono ?_
          rintro e w2 ⟨rfl, p2⟩
          go_wp2
          go_roundw
          case rel => exact ⟨i + 1, by omega, by go_num, Lib.hid (look_take HR.out.1 HR.out.2 hE.out Hlr.out), HPB.out.trans p2⟩
          case measure => simp [intOf]; omega
        · rw [decide_eq_false hlr] at Hc
          have Hlr := Lib.hid hlr
          clear hlr
          go_wp2_with fail
          refine Hc.out.mono ?_
          rintro e w2 ⟨rfl, p2⟩
          go_wp2
          go_ret
          exact ⟨by rw [decide_eq_false (look_ne HR.out.1 HR.out.2 Hlr.out)]; rfl, HPB.out.trans p2⟩
      · obtain rfl : i = n := by omega
        go_wp2
        go_ret
        have h3 := hE.out
        rw [List.take_of_length_le (by rw [← HL.out.2.2.1, HL.out.1]; exact Nat.le_refl _), List.take_of_length_le (by rw [← HL.out.2.2.2, HL.out.2.1]; exact Nat.le_refl _)] at h3
        exact ⟨by rw [decide_eq_true h3]; rfl, hP⟩
  · have hf : ¬ l.map lookR = l2.map lookR := fun e => by
      have := congrArg List.length e
      rw [List.length_map, List.length_map] at this
      omega
    rw [decide_eq_false hf]
    have hne : ¬ (n : Int) = (m : Int) := by omega
    clear hf h1 h2 hh1 hh2 s1 s2 hl1 hl2 e1 e2
    go_enter Tryz.func40, Tryz.ntmps40
    go_wp2
    go_ret
    exact ⟨rfl, Pu.refl _⟩
set_option maxRecDepth 100000 in
theorem same_any (A B : Option Addr) (n c m d : Nat) (L L2 : List RawR) (l l2 : List RowM) (w : World) (h1 : SlR w A n c L) (h2 : SlR w B m d L2) (hh1 : HoldR w L l) (hh2 : HoldR w L2 l2) (s1 : ∀ r ∈ l, Sml r) (s2 : ∀ r ∈ l2, Sml r) (hn : n < 4611686018427387904) :
    Calls Tryz.prog 11 #[.slice A n c, .slice B m d] w fun e w' => e = .returned (.bool (decide (l.map lookR = l2.map lookR))) ∧ Pu w w' := by
  have H := Lib.hid (equal_any A B n c m d L L2 l l2 w h1 h2 hh1 hh2 s1 s2 hn)
  clear h1 h2 hh1 hh2 s1 s2 hn
  go_enter Tryz.func11, Tryz.ntmps11
  go_wp2_with fail
  refine H.out.mono ?_
  rintro e w2 ⟨rfl, p2⟩
  go_wp2
  go_ret
  exact ⟨rfl, p2⟩
end
section
set_option linter.unusedVariables false
open Go.RowKit
def sideM (k : Key) (r : RowM) : Nat := if r.eq = true ∨ factor r.fs k = 0 then 2 else if factor r.fs k < 0 then 0 else 1
def partM (k : Key) (s : Nat) (l : List RowM) : List RowM := l.filter fun r => sideM k r == s
theorem partM_next {k : Key} {s : Nat} {l : List RowM} {i : Nat} {r : RowM} (h : l[i]? = some r) : partM k s (l.take (i + 1)) = partM k s (l.take i) ++ (if sideM k r = s then [r] else []) := by
  unfold partM
  rw [List.take_add_one, h, List.filter_append]
  congr 1
  by_cases c : sideM k r = s
  · simp [c]
  · simp [c]
structure OwnR (w0 w : World) (A : Option Addr) (n c : Nat) (L : List RawR) (l : List RowM) : Prop where
  own : w.ownsRow w0.heap.size 35 4 (.slice A n c) n (cat RawR.cells L)
  hold : HoldR w0 L l
theorem OwnR.pu {w0 w w' : World} {A : Option Addr} {n c : Nat} {L : List RawR} {l : List RowM} (h : OwnR w0 w A n c L l) (p : Pu w w') : OwnR w0 w' A n c L l := ⟨own_pu h.own p, h.hold⟩
theorem OwnR.len {w0 w : World} {A : Option Addr} {n c : Nat} {L : List RawR} {l : List RowM} (h : OwnR w0 w A n c L l) : n = l.length := by
  rw [← h.hold.1, SlR.len (Sl.of_own h.own)]
def ApartR (A A' : Option Addr) : Prop := ∀ b b' off off', A = some ⟨b, off, none⟩ → A' = some ⟨b', off', none⟩ → b ≠ b'
theorem ApartR.symm {A A' : Option Addr} (h : ApartR A A') : ApartR A' A := fun b b' o o' e e' x => h b' b o' o e' e x.symm
theorem ownBlock_at {A : Option Addr} {n c g : Nat} {w : World} {base k : Nat} {e : TypeId} {xs : List Value} (ho : w.ownsRow base e k (.slice A n c) n xs) (h : (Value.slice A n c).ownBlock = some g) : ∃ off, A = some ⟨g, off, none⟩ := by
  rcases ho.2 with ⟨hv, _⟩ | ⟨g', cap, cur, hv, _⟩
  · rw [hv] at h
    cases h
  · rw [hv] at h
    have e1 : g' = g := by
      have h3 : some g' = some g := h
      injection h3
    subst e1
    injection hv with hv
    exact ⟨0, hv⟩
theorem OwnR.other {w0 w w' : World} {A A1 : Option Addr} {n c n1 c1 : Nat} {L L1 : List RawR} {l l1 : List RowM} (h : OwnR w0 w A n c L l) (h1 : OwnR w0 w A1 n1 c1 L1 l1) (ha : ApartR A A1) (hg : w.grownBy w' (Value.slice A1 n1 c1).ownBlock) : OwnR w0 w' A n c L l := by
  refine ⟨own_fr h.own (Fr.of_grown hg) (fun g hg2 e => ?_), h.hold⟩
  obtain ⟨o1, e1⟩ := ownBlock_at h.own hg2
  obtain ⟨o2, e2⟩ := ownBlock_at h1.own e
  exact ha g g o1 o2 e1 e2 rfl
theorem apart_new {w0 w : World} {A A1 : Option Addr} {n c n1 c1 g : Nat} {L L1 : List RawR} {l l1 : List RowM} (h : OwnR w0 w A n c L l) (h1 : OwnR w0 w A1 n1 c1 L1 l1) (ha : ApartR A A1) (hw : (Value.slice A1 n1 c1).ownBlock = some g ∨ w.heap.size ≤ g) : ApartR A (some ⟨g, 0, none⟩) := by
  intro b b' o o' e e' x
  injection e' with e'
  injection e' with e1 _
  subst x e1
  rcases hw with hw | hw
  · obtain ⟨o2, e2⟩ := ownBlock_at h1.own hw
    exact ha _ _ o o2 e e2 rfl
  · rcases h.own.2 with ⟨hv, _⟩ | ⟨g', cap, cur, hv, _, hgg, _⟩
    · injection hv with hv
      rw [hv] at e
      cases e
    · injection hv with hv
      rw [hv] at e
      injection e with e
      injection e with e3 _
      have := (Array.getElem?_eq_some_iff.1 hgg).1
      omega
theorem OwnR.push {w0 w' : World} {g n c' : Nat} {L : List RawR} {l : List RowM} {q : RawR} {r : RowM} (hh : HoldR w0 L l) (hq : RowIs w0 q r) (ho : w'.ownsRow w0.heap.size 35 4 (.slice (some ⟨g, 0, none⟩) (n + 1) c') (n + 1) (cat RawR.cells L ++ #[Value.bool q.g, .slice q.A q.n q.c, .pointer q.m, .bool q.eq].toList)) :
    OwnR w0 w' (some ⟨g, 0, none⟩) (n + 1) c' (L ++ [q]) (l ++ [r]) := ⟨by rw [cat_append, cat_one]; exact ho, hh.append (HoldR.one hq)⟩
structure Three (w0 w : World) (A0 A1 A2 : Option Addr) (n0 c0 n1 c1 n2 c2 : Nat) (L0 L1 L2 : List RawR) (l0 l1 l2 : List RowM) : Prop where
  o0 : OwnR w0 w A0 n0 c0 L0 l0
  o1 : OwnR w0 w A1 n1 c1 L1 l1
  o2 : OwnR w0 w A2 n2 c2 L2 l2
  a01 : ApartR A0 A1
  a02 : ApartR A0 A2
  a12 : ApartR A1 A2
  pu : Pu w0 w
section
variable {w0 w w' : World} {A0 A1 A2 : Option Addr} {n0 c0 n1 c1 n2 c2 : Nat} {L0 L1 L2 : List RawR} {l0 l1 l2 : List RowM}
theorem Three.pus (h : Three w0 w A0 A1 A2 n0 c0 n1 c1 n2 c2 L0 L1 L2 l0 l1 l2) (p : Pu w w') : Three w0 w' A0 A1 A2 n0 c0 n1 c1 n2 c2 L0 L1 L2 l0 l1 l2 := ⟨h.o0.pu p, h.o1.pu p, h.o2.pu p, h.a01, h.a02, h.a12, h.pu.trans p⟩
theorem Three.rot (h : Three w0 w A0 A1 A2 n0 c0 n1 c1 n2 c2 L0 L1 L2 l0 l1 l2) : Three w0 w A1 A2 A0 n1 c1 n2 c2 n0 c0 L1 L2 L0 l1 l2 l0 := ⟨h.o1, h.o2, h.o0, h.a12, h.a01.symm, h.a02.symm, h.pu⟩
theorem Three.push (h : Three w0 w A0 A1 A2 n0 c0 n1 c1 n2 c2 L0 L1 L2 l0 l1 l2) {g c' : Nat} {q : RawR} {r : RowM} (hq : RowIs w0 q r)
    (ho : w'.ownsRow w0.heap.size 35 4 (.slice (some ⟨g, 0, none⟩) (n0 + 1) c') (n0 + 1) (cat RawR.cells L0 ++ #[Value.bool q.g, .slice q.A q.n q.c, .pointer q.m, .bool q.eq].toList)) (hg : w.grownBy w' (Value.slice A0 n0 c0).ownBlock) (hw : (Value.slice A0 n0 c0).ownBlock = some g ∨ w.heap.size ≤ g) :
    Three w0 w' (some ⟨g, 0, none⟩) A1 A2 (n0 + 1) c' n1 c1 n2 c2 (L0 ++ [q]) L1 L2 (l0 ++ [r]) l1 l2 :=
  ⟨OwnR.push h.o0.hold hq ho, h.o1.other h.o0 h.a01.symm hg, h.o2.other h.o0 h.a02.symm hg, (apart_new h.o1 h.o0 h.a01.symm hw).symm, (apart_new h.o2 h.o0 h.a02.symm hw).symm, h.a12, h.pu.grown hg (fun k hk => (h.o0.own.lt k hk).1)⟩
end
set_option maxHeartbeats 4000000 in
set_option maxRecDepth 100000 in
theorem split_any (A : Option Addr) (n c K : Nat) (L : List RawR) (l : List RowM) (k : Key) (w : World) (h : SlR w A n c L) (hh : HoldR w L l) (hg : ∀ r ∈ l, (factor r.fs k).natAbs < 4294967296 ^ 40000) (hn : n < 1100000) :
    Calls Tryz.prog 13 #[.slice A n c, .string ⟨k.toArray⟩] w fun e w' => ∃ A0 n0 c0 A1 n1 c1 A2 n2 c2 L0 L1 L2, e = .returned (.tuple #[.slice A0 n0 c0, .slice A1 n1 c1, .slice A2 n2 c2]) ∧ Three w w' A0 A1 A2 n0 c0 n1 c1 n2 c2 L0 L1 L2 (partM k 0 l) (partM k 1 l) (partM k 2 l) := by
  have hlen : L.length = n := h.len
  have hll := hh.1
  have HL := Lib.hid (And.intro hlen hll)
  have Hg := Lib.hid hg
  clear hg hlen hll
  go_enter Tryz.func13, Tryz.ntmps13
  go_wp2_with fail
  go_loopw [4, 5, 6, 12] (fun v0 v1 v2 iv wr => ∃ (i : Nat) (A0 : Option Addr) (n0 c0 : Nat) (A1 : Option Addr) (n1 c1 : Nat) (A2 : Option Addr) (n2 c2 : Nat) (L0 L1 L2 : List RawR), i ≤ n ∧ iv = .int .i64 (i : Int) ∧ v0 = .slice A0 n0 c0 ∧ v1 = .slice A1 n1 c1 ∧ v2 = .slice A2 n2 c2 ∧ n0 ≤ i ∧ n1 ≤ i ∧ n2 ≤ i ∧ Three w wr A0 A1 A2 n0 c0 n1 c1 n2 c2 L0 L1 L2 (partM k 0 (l.take i)) (partM k 1 (l.take i)) (partM k 2 (l.take i))) (fun _ _ _ iv _ => n - (intOf iv).toNat)
  case atStart => exact ⟨0, none, 0, 0, none, 0, 0, none, 0, 0, [], [], [], Nat.zero_le _, rfl, rfl, rfl, rfl, Nat.le_refl _, Nat.le_refl _, Nat.le_refl _, ⟨⟨World.ownsRow_nil _ _ _ _, by simpa [partM] using HoldR.nil w⟩, ⟨World.ownsRow_nil _ _ _ _, by simpa [partM] using HoldR.nil w⟩, ⟨World.ownsRow_nil _ _ _ _, by simpa [partM] using HoldR.nil w⟩, fun _ _ _ _ e => (by cases e), fun _ _ _ _ e => (by cases e), fun _ _ _ _ e => (by cases e), Pu.refl _⟩⟩
  case round =>
    obtain ⟨i, A0, n0, c0, A1, n1, c1, A2, n2, c2, L0, L1, L2, hi, rfl, rfl, rfl, rfl, hi0, hi1, hi2, hT⟩ := hrel
    by_cases hlt : i < n
    · obtain ⟨q, hq⟩ : ∃ q, L[i]? = some q := ⟨_, List.getElem?_eq_getElem (by rw [HL.out.1]; exact hlt)⟩
      obtain ⟨r, hr, hri⟩ := hh.at_ hq
      obtain ⟨b, off, rfl, hbl, x0, x1, x2, x3⟩ := SlR.at_ (Sl.pu h hT.pu) hq
      obtain ⟨W, hWe⟩ : ∃ W, W = wr.alloc (.cells #[.bool q.g, .slice q.A q.n q.c, .pointer q.m, .bool q.eq] 35) := ⟨_, rfl⟩
      have pB : Pu wr W := by rw [hWe]; exact (Pu.refl wr).alloc _
      have kR : Blk W wr.heap.size 35 #[.bool q.g, .slice q.A q.n q.c, .pointer q.m, .bool q.eq] := by rw [hWe]; exact Blk.new _ _ _
      have hTW := hT.pus pB
      have hfac := tfactor_any q.term r.rest k r.fs W (hri.2.pu hTW.pu)
      have hHN := fun s => partM_next (k := k) (s := s) hr
      have heq : q.eq = r.eq := hri.1
      have Hf := Lib.hid hfac
      rw [hWe] at Hf
      have HWe := Lib.hid hWe
      have HN := Lib.hid hHN
      have Hri := Lib.hid hri
      have hfb := Hg.out r (List.mem_of_getElem? hr)
      have hwi : IntKind.i64.wrap ((i : Int) + 1) = (i : Int) + 1 := IntWalk.i64_in _ (by omega)
      have hszW := hTW.pu.size
      clear hfac hHN hri hWe pB hT hq hr
      obtain ⟨qg, qA, qn, qc, qm, qe⟩ := q
      obtain ⟨s, hs, hcase⟩ : ∃ s : Int, (factor r.fs k).sign = s ∧ ((s = -1 ∧ factor r.fs k < 0) ∨ (s = 0 ∧ factor r.fs k = 0) ∨ (s = 1 ∧ 0 < factor r.fs k)) := by
        rcases Int.lt_trichotomy (factor r.fs k) 0 with c | c | c
        · exact ⟨-1, Int.sign_eq_neg_one_of_neg c, .inl ⟨rfl, c⟩⟩
        · exact ⟨0, by rw [c]; rfl, .inr (.inl ⟨rfl, c⟩)⟩
        · exact ⟨1, Int.sign_eq_one_of_pos c, .inr (.inr ⟨rfl, c⟩)⟩
      have Hsg := Lib.hid (fun V v (hv : ZR V v (factor r.fs k)) => sign_any v (factor r.fs k) V hv hfb)
      rw [hs] at Hsg
      dsimp only at x0 x1 x2 x3 Hf heq kR Hri HWe
      have hside : (qe = true ∧ sideM k r = 2) ∨ (qe = false ∧ s = 0 ∧ sideM k r = 2) ∨ (qe = false ∧ s = -1 ∧ sideM k r = 0) ∨ (qe = false ∧ s = 1 ∧ sideM k r = 1) := by
        unfold sideM
        rw [← heq]
        cases qe with
        | true => exact .inl ⟨rfl, by rw [if_pos (.inl rfl)]⟩
        | false =>
          rcases hcase with ⟨h1, h2⟩ | ⟨h1, h2⟩ | ⟨h1, h2⟩
          · exact .inr (.inr (.inl ⟨rfl, h1, by rw [if_neg (fun x => x.elim (fun x => by cases x) (fun x => by omega)), if_pos h2]⟩))
          · exact .inr (.inl ⟨rfl, h1, by rw [if_pos (.inr h2)]⟩)
          · exact .inr (.inr (.inr ⟨rfl, h1, by rw [if_neg (fun x => x.elim (fun x => by cases x) (fun x => by omega)), if_neg (by omega)]⟩))
      clear hs heq hcase hfb
      have HT := Lib.hid hTW
      clear hTW
      rcases hside with ⟨rfl, hsd⟩ | ⟨rfl, rfl, hsd⟩ | ⟨rfl, rfl, hsd⟩ | ⟨rfl, rfl, hsd⟩
      all_goals
        have HN2 := Lib.hid (And.intro (HN.out 0) (And.intro (HN.out 1) (HN.out 2)))
        rw [hsd] at HN2
        clear hsd
        go_wp2_with fail
        refine Hf.out.mono ?_
        rintro e w2 ⟨v, rfl, hv, p2⟩
        rw [← HWe.out] at p2
        go_wp2_with fail
        refine (Hsg.out _ _ hv).mono ?_
        rintro e w3 ⟨rfl, p3⟩
        have p23 := p2.trans p3
        have kR3 := kR.pu p23
        have hT3 := HT.out.pus p23
        have z0 := kR3.cell 0
        have z1 := kR3.cell 1
        have z2 := kR3.cell 2
        have z3 := kR3.cell 3
        have hsz3 := hT3.pu.size
        have HT3 := Lib.hid hT3
        clear hv p2 p3 p23 kR3
      · have hown := HT3.out.o2.own
        go_wp2_with (at_builtin; refine wpList_pushL eiRow rfl _ _ rfl #[.bool qg, .slice qA qn qc, .pointer qm, .bool true] rfl (RawR.cells_one ⟨qg, qA, qn, qc, qm, true⟩) rfl rfl (by simp) hown (by simp [maxLen]; omega) (by omega) hsz3 ?_)
        intro g4 c4 w4 ho4 hg4 hw4
        have hT4 := ((HT3.out.rot.rot.pus ((Pu.refl w3).alloc _)).push (q := ⟨qg, qA, qn, qc, qm, true⟩) Hri.out ho4 hg4 (hw4.imp id (fun e => by rw [e]; simp))).rot
        have HT4 := Lib.hid hT4
        clear hT4 ho4 hg4 hw4 hown
        go_wp2
        go_roundw
        case rel => exact ⟨i + 1, A0, n0, c0, A1, n1, c1, some ⟨g4, 0, none⟩, n2 + 1, c4, L0, L1, L2 ++ [_], by omega, by go_num, rfl, rfl, rfl, by omega, by omega, by omega, by rw [HN2.out.1, HN2.out.2.1, HN2.out.2.2]; simpa using HT4.out⟩
        case measure => simp [intOf]; omega
      · have hown := HT3.out.o2.own
        go_wp2_with (at_builtin; refine wpList_pushL eiRow rfl _ _ rfl #[.bool qg, .slice qA qn qc, .pointer qm, .bool false] rfl (RawR.cells_one ⟨qg, qA, qn, qc, qm, false⟩) rfl rfl (by simp) hown (by simp [maxLen]; omega) (by omega) hsz3 ?_)
        intro g4 c4 w4 ho4 hg4 hw4
        have hT4 := ((HT3.out.rot.rot.pus ((Pu.refl w3).alloc _)).push (q := ⟨qg, qA, qn, qc, qm, false⟩) Hri.out ho4 hg4 (hw4.imp id (fun e => by rw [e]; simp))).rot
        have HT4 := Lib.hid hT4
        clear hT4 ho4 hg4 hw4 hown
        go_wp2
        go_roundw
        case rel => exact ⟨i + 1, A0, n0, c0, A1, n1, c1, some ⟨g4, 0, none⟩, n2 + 1, c4, L0, L1, L2 ++ [_], by omega, by go_num, rfl, rfl, rfl, by omega, by omega, by omega, by rw [HN2.out.1, HN2.out.2.1, HN2.out.2.2]; simpa using HT4.out⟩
        case measure => simp [intOf]; omega
      · have hown := HT3.out.o0.own
        go_wp2_with (at_builtin; refine wpList_pushL eiRow rfl _ _ rfl #[.bool qg, .slice qA qn qc, .pointer qm, .bool false] rfl (RawR.cells_one ⟨qg, qA, qn, qc, qm, false⟩) rfl rfl (by simp) hown (by simp [maxLen]; omega) (by omega) hsz3 ?_)
        intro g4 c4 w4 ho4 hg4 hw4
        have hT4 := ((HT3.out.pus ((Pu.refl w3).alloc _)).push (q := ⟨qg, qA, qn, qc, qm, false⟩) Hri.out ho4 hg4 (hw4.imp id (fun e => by rw [e]; simp)))
        have HT4 := Lib.hid hT4
        clear hT4 ho4 hg4 hw4 hown
        go_wp2
        go_roundw
        case rel => exact ⟨i + 1, some ⟨g4, 0, none⟩, n0 + 1, c4, A1, n1, c1, A2, n2, c2, L0 ++ [_], L1, L2, by omega, by go_num, rfl, rfl, rfl, by omega, by omega, by omega, by rw [HN2.out.1, HN2.out.2.1, HN2.out.2.2]; simpa using HT4.out⟩
        case measure => simp [intOf]; omega
      · have hown := HT3.out.o1.own
        go_wp2_with (at_builtin; refine wpList_pushL eiRow rfl _ _ rfl #[.bool qg, .slice qA qn qc, .pointer qm, .bool false] rfl (RawR.cells_one ⟨qg, qA, qn, qc, qm, false⟩) rfl rfl (by simp) hown (by simp [maxLen]; omega) (by omega) hsz3 ?_)
        intro g4 c4 w4 ho4 hg4 hw4
        have hT4 := ((HT3.out.rot.pus ((Pu.refl w3).alloc _)).push (q := ⟨qg, qA, qn, qc, qm, false⟩) Hri.out ho4 hg4 (hw4.imp id (fun e => by rw [e]; simp))).rot.rot
        have HT4 := Lib.hid hT4
        clear hT4 ho4 hg4 hw4 hown
        go_wp2
        go_roundw
        case rel => exact ⟨i + 1, A0, n0, c0, some ⟨g4, 0, none⟩, n1 + 1, c4, A2, n2, c2, L0, L1 ++ [_], L2, by omega, by go_num, rfl, rfl, rfl, by omega, by omega, by omega, by rw [HN2.out.1, HN2.out.2.1, HN2.out.2.2]; simpa using HT4.out⟩
        case measure => simp [intOf]; omega
    · obtain rfl : i = n := by omega
      rw [List.take_of_length_le (by rw [← HL.out.2, HL.out.1]; exact Nat.le_refl _)] at hT
      have HT := Lib.hid hT
      clear hT
      go_wp2
      refine bodyPost_ret (v := .tuple #[.slice A0 n0 c0, .slice A1 n1 c1, .slice A2 n2 c2]) (by simp [results, Tryz.results13, go_sem]) rfl ⟨A0, n0, c0, A1, n1, c1, A2, n2, c2, L0, L1, L2, rfl, HT.out⟩
end
end Go.Proofs.YtckfnbckoclhpaaGreatDoor
