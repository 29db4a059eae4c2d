/- Rows: the pair of a row of factors. Rows: a table's cells are set. Rows: equal learns an Eq. -/
import Derived.Test.YtckfnbckoclhpaaGreatDoorE17
import Derived.Test.YtckfnbckoclhpaaGreatDoorE15
import Derived.Test.YtckfnbckoclhpaaGreatDoorE10
import Derived.Deep.RegionHeld3
namespace Go.Proofs.YtckfnbckoclhpaaGreatDoor
section
set_option linter.unusedVariables false
open Go.RowKit
theorem MOP.typed {w : World} {base b : Nat} {r : Option Nat} {L : List (Key × Nat)} (h : MOP w base b r L) : ∀ g, (g = b ∨ r = some g) → base ≤ g ∧ ∃ t cs fz, w.heap[g]? = some (.cells cs t fz) ∧ (t = 153 ∨ t = 102) := by
  have h' := h
  obtain ⟨A, n, c, k1, k2, k3, k4⟩ := h
  rintro g (rfl | hg)
  · exact ⟨k4.1, _, _, _, k1, .inl rfl⟩
  · refine ⟨(h'.row g hg).1, ?_⟩
    rcases k2.2 with ⟨hv, _⟩ | ⟨g', cap, cur, hv, _, hgg, _⟩
    · rw [hv] at k3
      rw [← k3] at hg
      cases hg
    · rw [hv] at k3
      rw [← k3] at hg
      have e : g' = g := by injection hg
      subst e
      exact ⟨_, _, _, hgg, .inr rfl⟩
theorem MOP.apart {w : World} {base b g : Nat} {t : TypeId} {cs : Array Value} {r : Option Nat} {L : List (Key × Nat)} (h : MOP w base b r L) (k : Blk w g t cs) (ht : t ≠ 153 ∧ t ≠ 102) : ¬ (g = b ∨ r = some g) := fun e => by
  obtain ⟨_, t', cs', fz', e', ht'⟩ := h.typed g e
  unfold Blk at k
  rw [k] at e'
  injection e' with e'
  injection e' with _ e'
  rw [← e'] at ht'
  rcases ht' with h1 | h1
  · exact ht.1 h1
  · exact ht.2 h1
theorem MOP.tt {w : World} {base b : Nat} {r : Option Nat} {L : List (Key × Nat)} (h : MOP w base b r L) : ∀ g, (g = b ∨ r = some g) → base ≤ g ∧ ∃ t cs fz, w.heap[g]? = some (.cells cs t fz) ∧ Tt t := fun g hg => by
  obtain ⟨a, t, cs, fz, e, ht⟩ := h.typed g hg
  refine ⟨a, t, cs, fz, e, ?_⟩
  rcases ht with rfl | rfl
  · exact .inl rfl
  · exact .inr (.inl rfl)
def pairM (ps : List (Key × Pr)) (fs : List (Key × Int)) : List (Key × Pr) := if there ps (ttext 0 fs) then ps else putM ps (ttext 0 fs) ⟨fs, none, none, none⟩
theorem pairM_rise {ps : List (Key × Pr)} (h : Rise ps) (fs : List (Key × Int)) : Rise (pairM ps fs) := by
  unfold pairM
  split
  · exact h
  · exact putM_rise h _ _
theorem pairM_look {ps : List (Key × Pr)} (h : Rise ps) (fs : List (Key × Int)) : lookM (pairM ps fs) (ttext 0 fs) = some (pairOf ps fs) := by
  unfold pairM pairOf
  split
  · rename_i ht
    obtain ⟨v, hv⟩ := (there_iff h _).1 ht
    unfold lookM
    rw [ht, if_pos rfl, hv]
    rfl
  · rename_i ht
    rw [look_put h, if_pos rfl, look_there (by simpa using ht)]
    rfl
theorem pairM_there {ps : List (Key × Pr)} (h : Rise ps) (fs : List (Key × Int)) : there (pairM ps fs) (ttext 0 fs) = true := by
  refine (there_iff (pairM_rise h fs) _).2 ?_
  have h1 := pairM_look h fs
  unfold lookM at h1
  split at h1
  · rename_i ht
    exact (there_iff (pairM_rise h fs) _).1 ht
  · cases h1
theorem pairM_put {ps : List (Key × Pr)} (h : Rise ps) (fs : List (Key × Int)) (p : Pr) : putM (pairM ps fs) (ttext 0 fs) p = putM ps (ttext 0 fs) p := by
  unfold pairM
  split
  · rfl
  · exact putM_putM h _ _ _
set_option maxHeartbeats 3000000 in
set_option maxRecDepth 100000 in
theorem tpair_any (base tb mb : Nat) (N : Nat → Prop) (ok : Bool) (r : Option Nat) (L : List (Key × Nat)) (ps : List (Key × Pr)) (v : Value) (fs : List (Key × Int)) (w : World)
    (h : TableAt w base N tb ok mb r L ps) (ht : TMO w base v 0 fs) (hb : base ≤ w.heap.size) (hlen : ps.length < 1100000) (hf : ∀ f ∈ fs, f.2.natAbs < 4294967296 ^ 40000) (hl : (ftext fs).length ≤ 140737488355328) :
    Calls Tryz.prog 104 #[ptr tb, v] w fun e w' => ∃ q r' L', e = .returned (ptr q) ∧ TableAt w' base N tb ok mb r' L' (pairM ps fs) ∧ L'[place (pairM ps fs) (ttext 0 fs)]? = some (ttext 0 fs, q) ∧ Qf base w w' := by
  obtain ⟨g, A, n, c, m, rfl⟩ := ht.tm.shape
  have pA : Pu w (w.alloc (.cells #[.bool g, .slice A n c, .pointer m] 33)) := (Pu.refl w).alloc _
  have kA : Blk (w.alloc (.cells #[.bool g, .slice A n c, .pointer m] 33)) w.heap.size 33 #[.bool g, .slice A n c, .pointer m] := Blk.new _ _ _
  have hstr := tstring_any _ 0 fs _ (ht.tm.pu pA) (by exact up_from (n := 0) (a := 1) (b := 40000) (by decide) (by decide)) hf hl
  have hrs := h.rise
  have hLl := h.hp.1
  have e1 := there_keys L ps (ttext 0 fs) h.hp.keys
  have Hstr := Lib.hid hstr
  clear hstr hf hl
  generalize hk : ttext 0 fs = k at *
  have Hk := Lib.hid hk
  clear hk
  cases hth : there ps k with
  | true =>
    obtain ⟨q, p, hq, hlk, hpk, his, htL, hplc⟩ := h.hp.get hrs.1 hth
    have hget : ∀ V, Pu w V → Calls Tryz.prog 151 #[.pointer (some ⟨mb, 0, none⟩), .string ⟨k.toArray⟩] V fun e w' => e = .returned (.tuple #[ptr q, .bool true]) ∧ Pu V w' := fun V pV => by
      have := getP mb L k V (h.mo.mr.pu pV)
      unfold gvP at this
      rw [htL] at this
      rw [hplc, hq] at this
      exact this
    have Hget := Lib.hid hget
    have HT := Lib.hid (And.intro h (And.intro hq hth))
    have kt := h.blk
    clear hget h ht hq hlk hpk his htL hplc hth e1 hrs
    go_enter Tryz.func104, Tryz.ntmps104
    go_wp2_with fail
    refine Hstr.out.mono ?_
    rintro e w1 ⟨rfl, p1⟩
    have c0 := ((kt.pu pA).pu p1).cell 0
    go_wp2_with fail
    refine (Hget.out _ (pA.trans p1)).mono ?_
    rintro e w2 ⟨rfl, p2⟩
    have P2 := (pA.trans p1).trans p2
    clear c0
    go_wp2
    go_ret
    have ep : pairM ps fs = ps := by
      unfold pairM
      rw [Hk.out, HT.out.2.2, if_pos rfl]
    exact ⟨q, r, L, rfl, by rw [ep]; exact HT.out.1.pu P2, by rw [ep]; exact HT.out.2.1, P2.qf base⟩
  | false =>
    have htL := e1.trans hth
    have hget : ∀ V, Pu w V → Calls Tryz.prog 151 #[.pointer (some ⟨mb, 0, none⟩), .string ⟨k.toArray⟩] V fun e w' => (∃ x, e = .returned (.tuple #[x, .bool false])) ∧ Pu V w' := fun V pV => by
      have := getP mb L k V (h.mo.mr.pu pV)
      rw [htL] at this
      exact this.mono fun e w' ⟨a, b⟩ => ⟨⟨_, a⟩, b⟩
    have Hget := Lib.hid hget
    have HT := Lib.hid (And.intro h (And.intro ht hth))
    have kt := h.blk
    clear hget h ht htL hth e1 hrs
    go_enter Tryz.func104, Tryz.ntmps104
    go_wp2_with fail
    refine Hstr.out.mono ?_
    rintro e w1 ⟨rfl, p1⟩
    have c0 := ((kt.pu pA).pu p1).cell 0
    go_wp2_with fail
    refine (Hget.out _ (pA.trans p1)).mono ?_
    rintro e w2 ⟨⟨x, rfl⟩, p2⟩
    have P2 := (pA.trans p1).trans p2
    have kT2 := kt.pu P2
    have kA2 := (kA.pu p1).pu p2
    have y0 := kA2.cell 0
    have y1 := kA2.cell 1
    have y2 := kA2.cell 2
    have t0 := kT2.cell 0
    have ltb := kT2.lt
    obtain ⟨V, hV⟩ : ∃ V, V = w2.alloc (.cells #[.bool g, .slice A n c, .pointer m, .pointer none, .pointer none, .pointer none] 159) := ⟨_, rfl⟩
    have pV : Pu w2 V := by rw [hV]; exact (Pu.refl _).alloc _
    have PV := P2.trans pV
    have kq : Blk V w2.heap.size 159 #[.bool g, .slice A n c, .pointer m, .pointer none, .pointer none, .pointer none] := by rw [hV]; exact Blk.new _ _ _
    have hput := putP base mb r L k w2.heap.size V (HT.out.1.mo.pu PV) (by omega)
    have HV := Lib.hid hV
    rw [hV] at hput
    have Hput := Lib.hid hput
    clear hV hput c0 p1 p2
    go_wp2_with fail
    refine Hput.out.mono ?_
    rintro e w3 ⟨rfl, r', hmo, hrr, hF⟩
    rw [← HV.out] at hF
    go_wp2
    go_ret
    have hmV := HT.out.1.mo.pu PV
    have his : PairIs V base N w2.heap.size ⟨fs, none, none, none⟩ := ⟨g, A, n, c, m, _, _, _, kq, by have := P2.size; omega, HT.out.2.1.pu PV, NPt.none _ _, NPt.none _ _, NPt.none _ _⟩
    have hlt := HT.out.1.hp.lt
    have hh1 := (HT.out.1.hp.pu PV).put HT.out.2.2 his (fun x hx e => by
      have h5 := (hlt x hx).2
      have h6 := P2.size
      omega)
    have hh2 : HoldP w3 base N (putM L k w2.heap.size) (putM ps k ⟨fs, none, none, none⟩) := hh1.fr hF hmV.tt (fun x hx => by
      obtain ⟨i, hi⟩ := List.getElem?_of_mem hx
      have hil := (List.getElem?_eq_some_iff.1 hi).1
      obtain ⟨a1, a2, a3, a4, a5, a6, a7, a8, hp⟩ := (hh1.2.1 i x _ hi (List.getElem?_eq_getElem (by rw [← hh1.1]; exact hil))).2
      exact hmV.apart hp.blk (by decide))
    have ep : pairM ps fs = putM ps k ⟨fs, none, none, none⟩ := by
      unfold pairM
      rw [Hk.out, HT.out.2.2]
      rfl
    refine ⟨w2.heap.size, r', putM L k w2.heap.size, rfl, ?_, ?_, (PV.qf base).trans (Qf.of hF hmV.tt)⟩
    · rw [ep]
      exact ⟨(kt.pu PV).fr hF (hmV.apart (kt.pu PV) (by decide)), HT.out.1.ge, hmo, hh2⟩
    · have hr1 := hmo.mr.rise
      have hk1 := hh2.keys
      rw [ep, ← place_keys _ _ k hk1]
      have h5 : (k, w2.heap.size) ∈ putM L k w2.heap.size := (mem_put HT.out.1.rise.1 k _ _).2 (.inl rfl)
      obtain ⟨j, hj⟩ := List.getElem?_of_mem h5
      rw [(there_at hr1 hj rfl).2]
      exact hj
end
section
set_option linter.unusedVariables false
open Go.RowKit
theorem one_tt {w : World} {base q i : Nat} {t : TypeId} {cs : Array Value} (k : Blk w q t cs) (hb : base ≤ q) (ht : Tt t) : ∀ g, g = q → base ≤ g ∧ ∃ t cs fz, w.heap[g]? = some (.cells cs t fz) ∧ Tt t := fun g hg => by
  subst hg
  exact ⟨hb, _, _, _, k, ht⟩
theorem PairAt.qfset {N : Nat → Prop} {w : World} {base q i : Nat} {g : Bool} {A : Option Addr} {n c : Nat} {m : Option Addr} {pu pl pe : Value} {p : Pr} (h : PairAt w base N q g A n c m pu pl pe p) (u : Value) : Qf base w (w.setCell ⟨q, i, none⟩ u) :=
  Qf.of (Fr.one w q i u) (one_tt (i := i) h.blk h.ge (by decide))
theorem PairAt.set_up {N : Nat → Prop} {w : World} {base q : Nat} {g : Bool} {A : Option Addr} {n c : Nat} {m : Option Addr} {pu pl pe : Value} {p : Pr} (h : PairAt w base N q g A n c m pu pl pe p) {u : Value} {o : Option Int} (hu : NPt w N u o) : PairIs (w.setCell ⟨q, 3, none⟩ u) base N q { p with up := o } :=
  have Q := h.qfset (i := 3) u
  ⟨g, A, n, c, m, u, pl, pe, h.blk.set_ 3 u, h.ge, h.tm.qf Q, hu.qf Q, h.l.qf Q, h.e.qf Q⟩
theorem PairAt.set_lo {N : Nat → Prop} {w : World} {base q : Nat} {g : Bool} {A : Option Addr} {n c : Nat} {m : Option Addr} {pu pl pe : Value} {p : Pr} (h : PairAt w base N q g A n c m pu pl pe p) {u : Value} {o : Option Int} (hu : NPt w N u o) : PairIs (w.setCell ⟨q, 4, none⟩ u) base N q { p with lo := o } :=
  have Q := h.qfset (i := 4) u
  ⟨g, A, n, c, m, pu, u, pe, h.blk.set_ 4 u, h.ge, h.tm.qf Q, h.u.qf Q, hu.qf Q, h.e.qf Q⟩
theorem PairAt.set_eq {N : Nat → Prop} {w : World} {base q : Nat} {g : Bool} {A : Option Addr} {n c : Nat} {m : Option Addr} {pu pl pe : Value} {p : Pr} (h : PairAt w base N q g A n c m pu pl pe p) {u : Value} {o : Option Int} (hu : NPt w N u o) : PairIs (w.setCell ⟨q, 5, none⟩ u) base N q { p with eq := o } :=
  have Q := h.qfset (i := 5) u
  ⟨g, A, n, c, m, pu, pl, u, h.blk.set_ 5 u, h.ge, h.tm.qf Q, h.u.qf Q, h.l.qf Q, hu.qf Q⟩
theorem TableAt.get {N : Nat → Prop} {w : World} {base tb mb : Nat} {ok : Bool} {r : Option Nat} {L : List (Key × Nat)} {ps : List (Key × Pr)} (h : TableAt w base N tb ok mb r L ps) {k : Key} {q : Nat} {p : Pr} (hq : L[place ps k]? = some (k, q)) (hp : lookM ps k = some p) : PairIs w base N q p := by
  have ht : there ps k = true := by
    unfold lookM at hp
    split at hp
    · assumption
    · cases hp
  obtain ⟨q', p', h1, h2, h3, h4, _⟩ := h.hp.get h.rise.1 ht
  rw [hq] at h1
  injection h1 with h1
  injection h1 with _ h1
  rw [hp] at h2
  injection h2 with h2
  rw [h1, h2]
  exact h4
theorem TableAt.set {N : Nat → Prop} {w : World} {base tb mb : Nat} {ok : Bool} {r : Option Nat} {L : List (Key × Nat)} {ps : List (Key × Pr)} (h : TableAt w base N tb ok mb r L ps) {k : Key} {q i : Nat} {u : Value} {cs : Array Value} {p' : Pr} (ht : there ps k = true) (hq : L[place ps k]? = some (k, q)) (kq : Blk w q 159 cs) (hg : base ≤ q) (hp : PairIs (w.setCell ⟨q, i, none⟩ u) base N q p') :
    TableAt (w.setCell ⟨q, i, none⟩ u) base N tb ok mb r L (putM ps k p') ∧ Qf base w (w.setCell ⟨q, i, none⟩ u) := by
  have F := Fr.one w q i u
  have T := one_tt (i := i) kq hg (by decide)
  have hnm := h.mo.apart kq (by decide)
  refine ⟨⟨h.blk.fr F (h.blk.ne_ kq (by decide)), h.ge, h.mo.fr F (fun e => hnm (.inl e.symm)) (fun g hg2 e => hnm (.inr (by rw [hg2, e]))), h.hp.set h.rise.1 ht hq F T (fun x hx hne => hne) hp⟩, Qf.of F T⟩
theorem TableAt.set_ok {N : Nat → Prop} {w : World} {base tb mb : Nat} {ok : Bool} {r : Option Nat} {L : List (Key × Nat)} {ps : List (Key × Pr)} (h : TableAt w base N tb ok mb r L ps) (b : Bool) :
    TableAt (w.setCell ⟨tb, 1, none⟩ (.bool b)) base N tb b mb r L ps ∧ Qf base w (w.setCell ⟨tb, 1, none⟩ (.bool b)) := by
  have F := Fr.one w tb 1 (.bool b)
  have T := one_tt (i := 1) h.blk h.ge (by decide)
  have hnm := h.mo.apart h.blk (by decide)
  refine ⟨⟨h.blk.set_ 1 _, h.ge, h.mo.fr F (fun e => hnm (.inl e.symm)) (fun g hg2 e => hnm (.inr (by rw [hg2, e]))), h.hp.fr F T (fun x hx e => ?_)⟩, Qf.of F T⟩
  obtain ⟨j, hj⟩ := List.getElem?_of_mem hx
  have hjl := (List.getElem?_eq_some_iff.1 hj).1
  obtain ⟨a1, a2, a3, a4, a5, a6, a7, a8, hp⟩ := (h.hp.2.1 j x _ hj (List.getElem?_eq_getElem (by rw [← h.hp.1]; exact hjl))).2
  exact hp.blk.ne_ h.blk (by decide) e
theorem HT.one {w : World} {a : Nat} (k : HT w a) (i : Nat) (u : Value) : Fr (fun j => j = a) w (w.setCell ⟨a, i, none⟩ u) ∧ ∀ g t cs fz, w.heap[g]? = some (.cells cs t fz) → t ≠ 30 → ¬ g = a := by
  refine ⟨Fr.one w a i u, fun g t cs fz e ht h => ?_⟩
  subst h
  obtain ⟨cs', fz', e'⟩ := k
  rw [e] at e'
  injection e' with e'
  injection e' with _ e'
  exact ht e'
theorem TMO.num {w : World} {base : Nat} {v : Value} {r : Int} {fs : List (Key × Int)} (h : TMO w base v r fs) {a : Nat} (k : HT w a) (i : Nat) (u : Value) : TMO (w.setCell ⟨a, i, none⟩ u) base v r fs := by
  obtain ⟨F, hne⟩ := k.one i u
  obtain ⟨g, A, n, c, b, r', L, e, hz, hm, hh⟩ := h
  have T : ∀ j, j = a → ∃ t cs fz, w.heap[j]? = some (.cells cs t fz) ∧ t ≠ 169 := fun j hj => by
    subst hj
    obtain ⟨cs, fz, e⟩ := k
    exact ⟨_, cs, fz, e, by decide⟩
  have hm' := hm
  obtain ⟨A', n', c', k1, k2, k3, k4⟩ := hm
  refine ⟨g, A, n, c, b, r', L, e, hz.frT F T, hm'.fr F (hne b _ _ _ k1 (by decide)) (fun j hj => ?_), hh.frT F T⟩
  rcases k2.2 with ⟨hv, _⟩ | ⟨g', cap, cur, hv, _, hgg, _⟩
  · rw [hv] at k3
    rw [← k3] at hj
    cases hj
  · rw [hv] at k3
    rw [← k3] at hj
    have e : g' = j := by injection hj
    subst e
    exact hne g' _ _ _ hgg (by decide)
theorem NPt.num {N : Nat → Prop} {w : World} {p : Value} {o : Option Int} (h : NPt w N p o) {a : Nat} (k : HT w a) (ha : ¬ N a) (i : Nat) (u : Value) : NPt (w.setCell ⟨a, i, Option.none⟩ u) N p o := by
  rcases h with h | ⟨b, g, A, n, c, z, h1, h2, h3, h4, h5⟩
  · exact .inl h
  · exact .inr ⟨b, g, A, n, c, z, h1, h2, h3, h4.far (fun e => by
      have e' : b = a := e
      exact ha (by rw [← e']; exact h3)) u, h5.put k i u⟩
theorem TableAt.num {N : Nat → Prop} {w : World} {base tb mb : Nat} {ok : Bool} {r : Option Nat} {L : List (Key × Nat)} {ps : List (Key × Pr)} (h : TableAt w base N tb ok mb r L ps) {a : Nat} (k : HT w a) (ha : ¬ N a) (i : Nat) (u : Value) : TableAt (w.setCell ⟨a, i, none⟩ u) base N tb ok mb r L ps := by
  obtain ⟨F, hne⟩ := k.one i u
  refine ⟨h.blk.fr F (hne tb _ _ _ h.blk (by decide)), h.ge, h.mo.fr F (fun e => ?_) (fun g hg e => ?_), h.hp.1, fun j x y hx hy => ⟨(h.hp.2.1 j x y hx hy).1, ?_⟩, h.hp.2.2⟩
  · obtain ⟨_, t, cs, fz, e1, e2⟩ := h.mo.typed mb (.inl rfl)
    exact hne mb t cs fz e1 (by rcases e2 with rfl | rfl <;> decide) e
  · obtain ⟨_, t, cs, fz, e1, e2⟩ := h.mo.typed g (.inr hg)
    exact hne g t cs fz e1 (by rcases e2 with rfl | rfl <;> decide) e
  · obtain ⟨a1, a2, a3, a4, a5, a6, a7, a8, hp⟩ := (h.hp.2.1 j x y hx hy).2
    exact ⟨a1, a2, a3, a4, a5, a6, a7, a8, hp.blk.fr F (hne _ _ _ _ hp.blk (by decide)), hp.ge, hp.tm.num k i u, hp.u.num k ha i u, hp.l.num k ha i u, hp.e.num k ha i u⟩
theorem Qf.alloc {base : Nat} {a w : World} (h : Qf base a w) (o : Obj) : Qf base a (w.alloc o) := h.trans (((Pu.refl w).alloc o).qf base)
theorem Qf.drew {base : Nat} {a w : World} (h : Qf base a w) : Qf base a w.drew := h.trans ((Pu.refl w).drew.qf base)
theorem Qf.setNew {base : Nat} {a w : World} (h : Qf base a w) {p : Addr} (hp : a.heap.size ≤ p.block) (u : Value) : Qf base a (w.setCell p u) := by
  obtain ⟨S, h1, h2⟩ := h
  exact ⟨S, h1.setCell (.inr hp) u, h2⟩
def PsB (ps : List (Key × Pr)) : Prop := ∀ e ∈ ps, ∀ m, (e.2.up = some m ∨ e.2.lo = some m ∨ e.2.eq = some m) → m.natAbs < 4294967296 ^ 30000
theorem PsB.of {ps : List (Key × Pr)} (h : PsB ps) (hr : Rise ps) (fs : List (Key × Int)) : ∀ m, ((pairOf ps fs).up = some m ∨ (pairOf ps fs).lo = some m ∨ (pairOf ps fs).eq = some m) → m.natAbs < 4294967296 ^ 30000 := by
  intro m hm
  unfold pairOf at hm
  cases e : lookM ps (ttext 0 fs) with
  | some p =>
    rw [e] at hm
    exact h _ ((look_some hr).1 e) m hm
  | none =>
    rw [e] at hm
    rcases hm with h1 | h1 | h1 <;> cases h1
end
section
set_option linter.unusedVariables false
open Go.RowKit
structure Room (ps : List (Key × Pr)) (fs : List (Key × Int)) (K : Nat) : Prop where
  len : ps.length < 1100000
  psb : PsB ps
  up : Upto K fs
  big : K + 1100000 * K < 4294967296 ^ 30000
  few : fs.length < 30000
  text : ∀ gs : List (Key × Int), gs.map (·.1) = fs.map (·.1) → Upto K gs → (ftext gs).length ≤ 140737488355328
def Learned (base tb mb : Nat) (s : Bool × List (Key × Pr)) (w : World) (e : Ending) (w' : World) : Prop := ∃ r' L', e = .returned (.tuple #[]) ∧ TableAt w' base (fun b => base ≤ b) tb s.1 mb r' L' s.2 ∧ Qf base w w'
theorem up1000 {z : Int} (h : z.natAbs < 4294967296 ^ 30000) : z.natAbs < 4294967296 ^ 40000 := up_from (n := z.natAbs) (a := 30000) (b := 40000) h (by decide)
theorem Upto.big {K : Nat} {fs : List (Key × Int)} (h : Upto K fs) (hb : K + 1100000 * K < 4294967296 ^ 30000) : ∀ f ∈ fs, f.2.natAbs < 4294967296 ^ 30000 := fun f hf => Nat.lt_of_le_of_lt (Nat.le_trans (h f hf) (Nat.le_add_right _ _)) hb
theorem Upto.big2 {K : Nat} {fs : List (Key × Int)} (h : Upto K fs) (hb : K + 1100000 * K < 4294967296 ^ 30000) : ∀ f ∈ fs, f.2.natAbs < 4294967296 ^ 40000 := fun f hf => up1000 (h.big hb f hf)
theorem ediv_exact {d z : Int} (h : z % d = 0) (hd : d ≠ 0) : (z / d).natAbs ≤ z.natAbs := by
  have h1 : d * (z / d) = z := Int.mul_ediv_cancel' (Int.dvd_of_emod_eq_zero h)
  have h2 : z.natAbs = d.natAbs * (z / d).natAbs := by rw [← Int.natAbs_mul, h1]
  rw [h2]
  exact Nat.le_mul_of_pos_left _ (by omega)
theorem exM_parts {r d : Int} {fs : List (Key × Int)} (h : exM r fs d = true) : r % d = 0 ∧ ∀ f ∈ fs, f.2 % d = 0 := by
  unfold exM at h
  rw [Bool.and_eq_true, List.all_eq_true] at h
  exact ⟨by simpa using h.1, fun f hf => by simpa using h.2 f hf⟩
theorem divM_exact {r d : Int} {fs : List (Key × Int)} {K : Nat} (h : exM r fs d = true) (hd : d ≠ 0) (hK : Upto K fs) : Upto K (divM fs d) := by
  intro f hf
  obtain ⟨q, hq, rfl⟩ := List.mem_map.1 hf
  exact Nat.le_trans (ediv_exact ((exM_parts h).2 q hq) hd) (hK q hq)
theorem notN {base U a : Nat} (h : U ≤ a) : ¬ (fun b => base ≤ b ∧ b < U) a := fun x => Nat.not_lt.2 h x.2
theorem divM_keys (fs : List (Key × Int)) (d : Int) : (divM fs d).map (·.1) = fs.map (·.1) := by simp [divM]
theorem mulM_keys (fs : List (Key × Int)) (d : Int) : (mulM fs d).map (·.1) = fs.map (·.1) := by simp [mulM]
theorem cells3 {V : World} {P : Nat} {t : TypeId} {a b c : Value} (k : Blk V P t #[a, b, c]) : V.cell? ⟨P, 0, none⟩ = some a ∧ V.cell? ⟨P, 1, none⟩ = some b ∧ V.cell? ⟨P, 2, none⟩ = some c := ⟨k.cell 0, k.cell 1, k.cell 2⟩
theorem ediv_abs2 {g : Int} (hg : g ≠ 0) (a : Int) : (a / g).natAbs ≤ a.natAbs + 1 := by
  rcases Int.lt_or_gt_of_ne hg with h | h
  · have h1 := ediv_abs (show 0 < -g by omega) a
    have h2 : a / g = -(a / -g) := by rw [Int.ediv_neg, Int.neg_neg]
    rw [h2, Int.natAbs_neg]
    omega
  · have h1 := ediv_abs h a
    omega
set_option maxHeartbeats 16000000 in
set_option maxRecDepth 100000 in
theorem tequal_any (base tb mb : Nat) (ok : Bool) (r : Option Nat) (L : List (Key × Nat)) (ps : List (Key × Pr)) (v1 v2 : Value) (rest g : Int) (k : Key) (z : Int) (fs : List (Key × Int)) (K : Nat) (w : World)
    (h : TableAt w base (fun b => base ≤ b) tb ok mb r L ps) (h1 : TM w v1 rest ((k, z) :: fs)) (h2 : ZR w v2 g) (hg0 : g ≠ 0) (hb : base ≤ w.heap.size) (hR : Room ps ((k, z) :: fs) K)
    (hr : rest.natAbs < 4294967296 ^ 30000) (hgb : g.natAbs < 4294967296 ^ 30000) (d : Int) (hd : d = if z < 0 then -g else g) :
    Calls Tryz.prog 69 #[ptr tb, v1, v2] w (Learned base tb mb (learnF (ok, ps) (if exM rest ((k, z) :: fs) d = true then .eq (divM ((k, z) :: fs) d) (rest / d) else .bad)) w) := by
  obtain ⟨g1, A1, n1, c1, m1, rfl⟩ := h1.shape
  obtain ⟨g2, A2, n2, c2, rfl⟩ := h2.shape2
  obtain ⟨W, hWe⟩ : ∃ W, W = (w.alloc (.cells #[.bool g1, .slice A1 n1 c1, .pointer m1] 33)).alloc (.cells #[.bool g2, .slice A2 n2 c2] 30) := ⟨_, rfl⟩
  have pW : Pu w W := by rw [hWe]; exact ((Pu.refl w).alloc _).alloc _
  have hdv := divided_any _ _ rest g k z fs W (h1.pu pW) (h2.pu pW) hg0 hr (hR.up.big hR.big) hgb hR.few
  rw [← hd] at hdv
  have hd0 : d ≠ 0 := by
    rw [hd]
    split <;> omega
  have Hdv := Lib.hid hdv
  rw [hWe] at Hdv
  have HWe := Lib.hid hWe
  have HTb := Lib.hid h
  have HR := Lib.hid hR
  have Hr := Lib.hid hr
  clear hWe hdv h1 h2 hr hgb h hR hd
  cases hx : exM rest ((k, z) :: fs) d with
  | false =>
    rw [hx] at Hdv
    clear hx
    go_enter Tryz.func69, Tryz.ntmps69
    go_wp2_with fail
    refine Hdv.out.mono ?_
    rintro e w4 ⟨g5, A5, n5, c5, m5, rfl, -, p4⟩
    rw [← HWe.out] at p4
    have P4 := (pW.trans p4).alloc (.cells #[.bool g5, .slice A5 n5 c5, .pointer m5] 33)
    have hT4 := HTb.out.pu P4
    have t1 := hT4.blk.cell 1
    have f1 := hT4.blk.frozen 1
    have HQ := Lib.hid (hT4.set_ok false)
    have HP4 := Lib.hid P4
    clear hT4 P4 p4
    go_wp2
    exact bodyPost_ret (v := .tuple #[]) (by simp [results, Tryz.results69, go_sem]) rfl ⟨r, L, rfl, HQ.out.1, (HP4.out.qf base).trans HQ.out.2⟩
  | true =>
    rw [hx] at Hdv
    have Hx := Lib.hid hx
    clear hx
    go_enter Tryz.func69, Tryz.ntmps69
    go_wp2_with fail
    refine Hdv.out.mono ?_
    rintro e w4 ⟨g5, A5, n5, c5, m5, rfl, hT5, p4⟩
    rw [← HWe.out] at p4
    have hT5 := hT5 trivial
    obtain ⟨U, hU⟩ : ∃ U, U = w4.alloc (.cells #[.bool g5, .slice A5 n5 c5, .pointer m5] 33) := ⟨_, rfl⟩
    have pU : Pu w4 U := by rw [hU]; exact (Pu.refl _).alloc _
    have kU : Blk U w4.heap.size 33 #[.bool g5, .slice A5 n5 c5, .pointer m5] := by rw [hU]; exact Blk.new _ _ _
    have PU := (pW.trans p4).trans pU
    have hTU := (hT5.pu pU).base_ (base' := base) (by simp; omega)
    have hTab := (HTb.out.pu PU).mono (N' := fun b => base ≤ b ∧ b < U.heap.size) (fun b h1 h2 => ⟨h2, h1⟩)
    have hU4 : base ≤ U.heap.size := Nat.le_trans hb PU.size
    have HU := Lib.hid hU
    have hupd := divM_exact Hx.out hd0 HR.out.up
    have hnr : (rest / d).natAbs < 4294967296 ^ 30000 := Nat.lt_of_le_of_lt (ediv_exact (exM_parts Hx.out).1 hd0) Hr.out
    have hlnd : (divM ((k, z) :: fs) d).length < 30000 := by rw [divM_len]; exact HR.out.few
    have htx := HR.out.text _ (divM_keys _ d) hupd
    generalize hfd : divM ((k, z) :: fs) d = fsd at *
    generalize hnd : rest / d = nn at *
    have Hbare := Lib.hid (show ∀ V, Pu U V → Calls Tryz.prog 105 #[.agg #[.bool g5, .slice A5 n5 c5, .pointer m5]] V fun e w' => ∃ v, e = .returned v ∧ TMO w' base v 0 fsd ∧ Pu V w' from fun V p => by
      refine (bare_any _ nn fsd K V (hTU.pu p).tm hupd hlnd HR.out.big hnr).mono ?_
      rintro e w' ⟨v, e1, ht, p'⟩
      rw [show nn + nn * (-1) = (0 : Int) by omega] at ht
      exact ⟨v, e1, ht.base_ (Nat.le_trans hU4 p.size), p'⟩)
    have Hpair := Lib.hid (fun V v (p : Pu U V) (ht : TMO V base v 0 fsd) => tpair_any base tb mb (fun b => base ≤ b ∧ b < U.heap.size) ok r L ps v fsd V (hTab.pu p) ht (Nat.le_trans hU4 p.size) HR.out.len (hupd.big2 HR.out.big) htx)
    have Hrest := Lib.hid (fun V (p : Qf base U V) => trest_any _ nn fsd V (hTU.qf p).tm)
    have Hpu := Lib.hid (And.intro PU (And.intro hnr hTab))
    have hrs := hTab.rise
    clear hU p4 pU hT5 hnr hlnd htx hTab
    go_wp2_with fail
    rw [← HU.out]
    rename_i K4 hK4
    have key4 : ∀ (x1 x2 x3 x4 x5 x6 x7 x10 x11 x12 x13 x14 x15 x16 x17 x18 x19 x20 x21 x22 x23 x24 x25 x26 x27 x28 x29 x30 x31 x32 x33 x34 x35 x36 x37 x38 x39 x40 x41 x42 x43 x44 x45 x46 x47 x48 : Value) (q P : Nat) (gn : Bool) (An : Option Addr) (nz cn : Nat) (r' : Option Nat) (L' : List (Key × Nat)) (F : World), Blk F P 30 #[.bool gn, .slice An nz cn] → ZR F (.agg #[.bool gn, .slice An nz cn]) nn → base ≤ P → TableAt F base (fun b => base ≤ b ∧ b < U.heap.size) tb ok mb r' L' (pairM ps fsd) → L'[place (pairM ps fsd) (ttext 0 fsd)]? = some (ttext 0 fsd, q) → Qf base U F → K4 { tmps := #[ptr tb, x1, x2, x3, x4, x5, x6, x7, ptr q, ptr P, x10, x11, x12, x13, x14, x15, x16, x17, x18, x19, x20, x21, x22, x23, x24, x25, x26, x27, x28, x29, x30, x31, x32, x33, x34, x35, x36, x37, x38, x39, x40, x41, x42, x43, x44, x45, x46, x47, x48], defers := [] } F := by
      intro x1 x2 x3 x4 x5 x6 x7 x10 x11 x12 x13 x14 x15 x16 x17 x18 x19 x20 x21 x22 x23 x24 x25 x26 x27 x28 x29 x30 x31 x32 x33 x34 x35 x36 x37 x38 x39 x40 x41 x42 x43 x44 x45 x46 x47 x48 q P gn An nz cn r' L' F kP hz hPb hTF hq hQ
      refine hK4 _ _ ?_
      clear hK4
      have hlk := pairM_look hrs.2 fsd
      have hth := pairM_there hrs.2 fsd
      have hpp := pairM_put hrs.2 fsd
      obtain ⟨gq, Aq, nq, cq, mq, pu, pl, pe, hpa⟩ := hTF.get hq hlk
      have hT0 : TableAt F base (fun b => base ≤ b) tb ok mb r' L' (pairM ps fsd) := hTF.mono (fun b _ h => h.1)
      have hpa0 : PairAt F base (fun b => base ≤ b) q gq Aq nq cq mq pu pl pe (pairOf ps fsd) := hpa.nlt (fun b _ h => h.1)
      have hnp : ∀ V, Pu F V → NPt V (fun b => base ≤ b) (ptr P) (some nn) := fun V p => .inr ⟨P, gn, An, nz, cn, nn, rfl, rfl, hPb, kP.pu p, hz.pu p⟩
      have htq : tb ≠ q := hTF.blk.ne_ hpa.blk (by decide)
      have hqt : q ≠ tb := htq.symm
      have hfin : ∀ V, Pu F V → TableAt (V.setCell ⟨q, 5, none⟩ (ptr P)) base (fun b => base ≤ b) tb ok mb r' L' (putM ps (ttext 0 fsd) { pairOf ps fsd with eq := some nn }) ∧ Qf base w (V.setCell ⟨q, 5, none⟩ (ptr P)) := fun V p => by
        have hpV : PairAt V base (fun b => base ≤ b) q gq Aq nq cq mq pu pl pe (pairOf ps fsd) := ⟨hpa0.blk.pu p, hpa0.ge, hpa0.tm.pu p, hpa0.u.pu p, hpa0.l.pu p, hpa0.e.pu p⟩
        obtain ⟨a1, a2⟩ := (hT0.pu p).set hth hq hpV.blk hpV.ge (hpV.set_eq (hnp V p))
        rw [hpp] at a1
        exact ⟨a1, (Hpu.out.1.qf base).trans ((hQ.trans (p.qf base)).trans a2)⟩
      have hfin2 : ∀ V, Pu F V → TableAt ((V.setCell ⟨tb, 1, none⟩ (.bool false)).setCell ⟨q, 5, none⟩ (ptr P)) base (fun b => base ≤ b) tb false mb r' L' (putM ps (ttext 0 fsd) { pairOf ps fsd with eq := some nn }) ∧ Qf base w ((V.setCell ⟨tb, 1, none⟩ (.bool false)).setCell ⟨q, 5, none⟩ (ptr P)) := fun V p => by
        obtain ⟨b1, b2⟩ := (hT0.pu p).set_ok false
        obtain ⟨gx, Ax, nx, cx, mx, pux, plx, pex, hpx⟩ := b1.get hq hlk
        have hnx : NPt (V.setCell ⟨tb, 1, none⟩ (.bool false)) (fun b => base ≤ b) (ptr P) (some nn) := (hnp V p).qf b2
        obtain ⟨a1, a2⟩ := b1.set hth hq hpx.blk hpx.ge (hpx.set_eq hnx)
        rw [hpp] at a1
        exact ⟨a1, (Hpu.out.1.qf base).trans ((hQ.trans (p.qf base)).trans (b2.trans a2))⟩
      have HF := Lib.hid (And.intro hfin hfin2)
      have kq := hpa.blk
      have kt := hTF.blk
      have hPU : ∀ V, Pu F V → V.cell? ⟨q, 5, none⟩ = some pe ∧ V.frozen? ⟨q, 5, none⟩ = false ∧ (∃ x, V.cell? ⟨tb, 1, none⟩ = some x) ∧ V.frozen? ⟨tb, 1, none⟩ = false := fun V p => ⟨(kq.pu p).cell 5, (kq.pu p).frozen 5, ⟨_, (kt.pu p).cell 1⟩, (kt.pu p).frozen 1⟩
      have HPU := Lib.hid hPU
      have heq := hpa.e
      have hpsb := HR.out.psb.of hrs.2 fsd
      have Hpsb := Lib.hid hpsb
      clear hfin hfin2 hnp hpa hpa0 hT0 hTF hpp hth hlk hPU hpsb
      rcases heq with ⟨rfl, he⟩ | ⟨b5, g8, A8, n8, c8, mm, rfl, he, hNb, kb5, hz5⟩
      · obtain ⟨d0, f0, -, -⟩ := HPU.out _ (Pu.refl F)
        have hP : Pu F F.drew := (Pu.refl F).drew
        have HP := Lib.hid hP
        have He := Lib.hid he
        clear he hP
        go_wp2_with fail
        go_region
        go_wp2
        go_end0
        refine ⟨r', L', rfl, ?_, (HF.out.1 _ HP.out).2⟩
        have h9 := (HF.out.1 _ HP.out).1
        unfold learnF
        dsimp only
        rw [He.out, decide_eq_true (Or.inl rfl), Bool.and_true]
        exact h9
      · have hmb := Hpsb.out mm (.inr (.inr he))
        have hcmp : ∀ V, Pu F V → Calls Tryz.prog 106 #[.agg #[.bool g8, .slice A8 n8 c8], .agg #[.bool gn, .slice An nz cn]] V fun e w' => e = .returned (.int .i64 (cmpZ mm nn)) ∧ Pu V w' := fun V p =>
          cmp_any _ _ mm nn V (hz5.pu p) (hz.pu p) (up1000 hmb) (up1000 Hpu.out.2.1)
        obtain ⟨d0, f0, ⟨x0, t0⟩, t1⟩ := HPU.out _ (Pu.refl F)
        have d1 := kb5.cell 0
        have d2 := kb5.cell 1
        have d3 := kP.cell 0
        have d4 := kP.cell 1
        have hP : Pu F F.drew := (Pu.refl F).drew
        have He := Lib.hid he
        have Hcmp := Lib.hid hcmp
        clear he hcmp hmb
        obtain ⟨s, hs, hcase⟩ : ∃ s : Int, cmpZ mm nn = s ∧ ((s = 0 ∧ mm = nn) ∨ (s ≠ 0 ∧ mm ≠ nn)) := by
          refine ⟨_, rfl, ?_⟩
          unfold cmpZ
          split
          · exact .inr ⟨by omega, by omega⟩
          · split
            · exact .inr ⟨by omega, by omega⟩
            · exact .inl ⟨rfl, by omega⟩
        rw [hs] at Hcmp
        clear hs
        rcases hcase with ⟨rfl, hmn⟩ | ⟨hs0, hmn⟩
        · have Hmn := Lib.hid hmn
          clear hmn
          go_wp2_with fail
          go_region_with (first
            | (go_at_call 106; refine (Hcmp.out _ hP).mono ?_; rintro e u2 ⟨rfl, p9⟩; replace hP := hP.trans p9; obtain ⟨y0, y1, -, -⟩ := HPU.out _ hP))
          all_goals
            go_wp2
            go_end0
            refine ⟨r', L', rfl, ?_, (HF.out.1 _ hP).2⟩
            have h9 := (HF.out.1 _ hP).1
            unfold learnF
            dsimp only
            rw [He.out, Hmn.out, decide_eq_true (Or.inr rfl), Bool.and_true]
            exact h9
        · have Hmn := Lib.hid hmn
          have hs1 : (s == 0) = false := by simpa using hs0
          clear hmn
          go_wp2_with fail
          go_region_with (first
            | (go_at_call 106; refine (Hcmp.out _ hP).mono ?_; rintro e u2 ⟨rfl, p9⟩; replace hP := hP.trans p9; obtain ⟨y0, y1, ⟨x2, y2⟩, y3⟩ := HPU.out _ hP))
          all_goals
            go_wp2
            go_end0
            refine ⟨r', L', rfl, ?_, (HF.out.2 _ hP).2⟩
            have h9 := (HF.out.2 _ hP).1
            unfold learnF
            dsimp only
            rw [He.out, decide_eq_false (fun h => by
              rcases h with h | h
              · cases h
              · injection h with h
                exact Hmn.out h), Bool.and_false]
            exact h9
    have hP : Pu U U.drew := (Pu.refl U).drew
    have hQ : Qf base U U.drew := hP.qf base
    have d0 : U.cell? ⟨w4.heap.size, 0, none⟩ = some (.bool g5) := kU.cell 0
    have d1 : U.cell? ⟨w4.heap.size, 1, none⟩ = some (.slice A5 n5 c5) := kU.cell 1
    have d2 : U.cell? ⟨w4.heap.size, 2, none⟩ = some (.pointer m5) := kU.cell 2
    clear hK4
    go_region_held3 (fun t => t.cell? ⟨w4.heap.size, 0, none⟩ = some (.bool g5) ∧ t.cell? ⟨w4.heap.size, 1, none⟩ = some (.slice A5 n5 c5) ∧ t.cell? ⟨w4.heap.size, 2, none⟩ = some (.pointer m5))
      (first | exact cells3 (kU.qf (base := base) (by repeat' (first | with_reducible exact hQ | with_reducible exact Qf.drew (Qf.alloc (Pu.qf (Pu.refl _) _) _) | with_reducible refine Qf.alloc ?_ _ | with_reducible refine Qf.drew ?_ | with_reducible refine Qf.setNew ?_ ?_ _ | (dsimp only; omega))) (by decide)) | go_keep)
      (first
        | (go_at_call 105; refine (Hbare.out _ (by with_reducible first | exact hP | exact hP.alloc _ | exact Pu.drew (Pu.alloc (Pu.refl _) _))).mono ?_; rintro e u2 ⟨v5, rfl, h5, p9⟩; with_reducible (first | (have bA := (Blk.new U 30 #[.bool false, .slice none 0 0]).drew.pu p9) | skip); replace hP := Pu.trans (a := U) (by with_reducible first | exact hP | exact hP.alloc _ | exact Pu.drew (Pu.alloc (Pu.refl _) _)) p9; replace hQ := hP.qf base; have z12 := hP.size; obtain ⟨g6, A6, m6, c6, q6, rfl⟩ := h5.tm.shape; (try clear lA); (try clear ka0 ka1 kf0 kf1); (try (have lA := bA.lt; have ka0 := bA.cell 0; have ka1 := bA.cell 1; have kf0 := bA.frozen 0; have kf1 := bA.frozen 1)))
        | (go_at_call 104; refine (Hpair.out _ _ (by with_reducible first | exact hP | exact hP.alloc _ | exact Pu.drew (Pu.alloc (Pu.refl _) _)) (h5.pu (by with_reducible first | exact Pu.refl _ | exact (Pu.refl _).alloc _))).mono ?_; rintro e u3 ⟨q, r', L', rfl, hTF, hq, q10⟩; with_reducible (first | (replace bA := bA.qf q10 (by decide)) | (have bA := (Blk.new u2 30 #[.bool false, .slice none 0 0]).qf q10 (by decide)) | skip); replace hQ := Qf.trans (a := U) (b := _) (by with_reducible first | exact hQ | exact hQ.alloc _) q10; have z13 := hQ.size; (try clear lA); (try clear ka0 ka1 kf0 kf1); (try (have lA := bA.lt; have ka0 := bA.cell 0; have ka1 := bA.cell 1; have kf0 := bA.frozen 0; have kf1 := bA.frozen 1)))
        | (go_at_call 68; refine (Hrest.out _ (by with_reducible first | exact hQ | exact hQ.alloc _)).mono ?_; rintro e u4 ⟨v7, rfl, h7, p11⟩; with_reducible (first | (replace bA := bA.pu p11) | (have bA := (Blk.new u3 30 #[.bool false, .slice none 0 0]).pu p11) | skip); replace hTF := (hTF.pu (by with_reducible first | exact Pu.refl _ | exact (Pu.refl _).alloc _)).pu p11; replace hQ := Qf.trans (a := U) (b := _) (by with_reducible first | exact hQ | exact hQ.alloc _) (p11.qf base); have z14 := hQ.size; obtain ⟨g7, A7, m7, c7, rfl⟩ := h7.shape2; (try clear lA); (try clear ka0 ka1 kf0 kf1); (try (have lA := bA.lt; have ka0 := bA.cell 0; have ka1 := bA.cell 1; have kf0 := bA.frozen 0; have kf1 := bA.frozen 1))))
    all_goals
      first
        | exact key4 _ _ _ _ _ _ _ _ _ _ _ _ _ _ _ _ _ _ _ _ _ _ _ _ _ _ _ _ _ _ _ _ _ _ _ _ _ _ _ _ _ _ _ _ _ _ q _ g7 A7 m7 c7 r' L' _ (blk_over0 g7 A7 m7 c7 bA) ((h7.put (HT.blk bA) _ _).put ((HT.blk bA).set _ _) _ _) (by omega) ((hTF.num (HT.blk bA) (notN (by omega)) _ _).num ((HT.blk bA).set _ _) (notN (by omega)) _ _) hq ((hQ.setNew (by dsimp only; omega) _).setNew (by dsimp only; omega) _)
        | exact key4 _ _ _ _ _ _ _ _ _ _ _ _ _ _ _ _ _ _ _ _ _ _ _ _ _ _ _ _ _ _ _ _ _ _ _ _ _ _ _ _ _ _ _ _ _ _ q _ g7 A7 m7 c7 r' L' _ (Blk.new _ _ _) (h7.pu ((Pu.refl _).alloc _)) (by omega) (hTF.pu ((Pu.refl _).alloc _)) hq (hQ.alloc _)
end
end Go.Proofs.YtckfnbckoclhpaaGreatDoor
