/- The law's lines in memory, and rows of made terms (plain). The law's rows: touchstonelaw16.both. -/
import Derived.Test.YtckfnbckoclhpaaGreatDoorE26
import Derived.Test.YtckfnbckoclhpaaGreatDoorE23
namespace Go.Proofs.YtckfnbckoclhpaaGreatDoor
section
set_option linter.unusedVariables false
open Go.RowKit
structure LineM where
  ps : List (Key × Int)
  rest : Int
  eq : Bool
structure RawL where
  A : Option Addr
  n : Nat
  c : Nat
  rest : Int
  eq : Bool
def RawL.cells (q : RawL) : List Value := [.slice q.A q.n q.c, .int .i64 q.rest, .bool q.eq]
theorem RawL.cells_len (q : RawL) : q.cells.length = 3 := rfl
structure PartsOk (ps : List (Key × Int)) : Prop where
  each : ∀ p ∈ ps, (-9223372036854775808 ≤ p.2 ∧ p.2 ≤ 9223372036854775807) ∧ p.1.length ≤ 9223372036854775807
  len : ps.length ≤ 9223372036854775807
structure LineIs (w : World) (q : RawL) (l : LineM) : Prop where
  eq : q.eq = l.eq
  rest : q.rest = l.rest
  n : q.n = l.ps.length
  sl : Sl w 2 q.A q.n q.c (cat partCells l.ps)
  lo : -9223372036854775808 ≤ l.rest
  hi : l.rest ≤ 9223372036854775807
  ok : PartsOk l.ps
theorem LineIs.pu {w w' : World} {q : RawL} {l : LineM} (h : LineIs w q l) (p : Pu w w') : LineIs w' q l := ⟨h.eq, h.rest, h.n, h.sl.pu p, h.lo, h.hi, h.ok⟩
def HoldL (w : World) (Q : List RawL) (ls : List LineM) : Prop := Q.length = ls.length ∧ ∀ (i : Nat) (q : RawL) (l : LineM), Q[i]? = some q → ls[i]? = some l → LineIs w q l
theorem HoldL.pu {w w' : World} {Q : List RawL} {ls : List LineM} (h : HoldL w Q ls) (p : Pu w w') : HoldL w' Q ls := ⟨h.1, fun i q l h1 h2 => (h.2 i q l h1 h2).pu p⟩
theorem HoldL.at_ {w : World} {Q : List RawL} {ls : List LineM} (h : HoldL w Q ls) {i : Nat} {q : RawL} (hq : Q[i]? = some q) : ∃ l, ls[i]? = some l ∧ LineIs w q l := by
  have hlt := (List.getElem?_eq_some_iff.1 hq).1
  have hr : ls[i]? = some (ls[i]'(by rw [← h.1]; exact hlt)) := List.getElem?_eq_getElem (by rw [← h.1]; exact hlt)
  exact ⟨_, hr, h.2 i q _ hq hr⟩
def okLine (l : LineM) : Bool := okM l.ps l.rest
def okL (m : Nat) (ls : List LineM) : Bool := decide (ls.length ≤ m) && ls.all okLine
def rowOf (l : LineM) : RowM := ⟨l.rest, sumM l.ps, l.eq⟩
theorem okL_stop {m : Nat} {ls : List LineM} {i : Nat} {l : LineM} (h : ls[i]? = some l) (hp : okLine l = false) : okL m ls = false := by
  unfold okL
  have : ls.all okLine = false := by
    rw [List.all_eq_false]
    exact ⟨l, List.mem_of_getElem? h, by simp [hp]⟩
  simp [this]
theorem okL_all {m : Nat} {ls : List LineM} (hl : ls.length ≤ m) (h : ∀ l ∈ ls, okLine l = true) : okL m ls = true := by
  unfold okL
  simp only [Bool.and_eq_true, decide_eq_true_eq, List.all_eq_true]
  exact ⟨hl, h⟩
abbrev SlL (w : World) (A : Option Addr) (n c : Nat) (Q : List RawL) : Prop := Sl w 3 A n c (cat RawL.cells Q)
theorem SlL.at_ {w : World} {A : Option Addr} {n c : Nat} {Q : List RawL} (h : SlL w A n c Q) {j : Nat} {q : RawL} (hj : Q[j]? = some q) :
    ∃ b off, A = some ⟨b, off, none⟩ ∧ b < w.heap.size ∧ w.cell? ⟨b, off + j * 3, none⟩ = some (.slice q.A q.n q.c) ∧ w.cell? ⟨b, off + j * 3 + 1, none⟩ = some (.int .i64 q.rest) ∧ w.cell? ⟨b, off + j * 3 + 2, none⟩ = some (.bool q.eq) := by
  obtain ⟨b, off, rfl, hb, hc⟩ := cat_at RawL.cells_len (by decide) h hj
  exact ⟨b, off, rfl, hb, hc 0 _ rfl, hc 1 _ rfl, hc 2 _ rfl⟩
theorem SlL.len {w : World} {A : Option Addr} {n c : Nat} {Q : List RawL} (h : SlL w A n c Q) : Q.length = n := Sl.clen RawL.cells_len (by decide) h
def Ty (t : TypeId) : Prop := t ≠ 169 ∧ t ≠ 126 ∧ t ≠ 119
theorem TMO.frY {S : Nat → Prop} {w w' : World} {base : Nat} {v : Value} {rest : Int} {fs : List (Key × Int)} (h : TMO w base v rest fs) (hf : Fr S w w') (hs : ∀ g, S g → ∃ t cs fz, w.heap[g]? = some (.cells cs t fz) ∧ Ty t) : TMO w' base v rest fs := by
  have hi : ∀ g, S g → ∃ t cs fz, w.heap[g]? = some (.cells cs t fz) ∧ t ≠ 169 := fun g hg => by
    obtain ⟨t, cs, fz, e, h1, _⟩ := hs g hg
    exact ⟨t, cs, fz, e, h1⟩
  obtain ⟨g, A, n, c, b, r, L, h1, h2, h3, h4⟩ := h
  refine ⟨g, A, n, c, b, r, L, h1, h2.frT hf hi, ?_, h4.frT hf hi⟩
  obtain ⟨A', n', c', k1, k2, k3, k4⟩ := h3
  refine ⟨A', n', c', k1.fr hf (fun hS => ?_), own_fr k2 hf (fun g hg hS => ?_), k3, k4⟩
  · obtain ⟨t, cs, fz, e, _, h2, _⟩ := hs _ hS
    unfold Blk at k1
    rw [k1] at e
    injection e with e
    injection e with _ e _
    exact h2 e.symm
  · obtain ⟨t, cs, fz, e, _, _, h2⟩ := hs g hS
    obtain ⟨_, t', cs', fz', e2, h5⟩ := own_typed k2 g hg
    rw [e] at e2
    injection e2 with e2
    injection e2 with _ e2 _
    exact h2 (e2.trans h5)
theorem TMX.frY {S : Nat → Prop} {w w' : World} {lo : Nat} {v : Value} {rest : Int} {fs : List (Key × Int)} (h : TMX w lo v rest fs) (hf : Fr S w w') (hs : ∀ g, S g → ∃ t cs fz, w.heap[g]? = some (.cells cs t fz) ∧ Ty t) : TMX w' lo v rest fs := by
  rcases h with ⟨g, A, n, c, rfl, h, rfl⟩ | ⟨base, hb, h⟩
  · exact .inl ⟨g, A, n, c, rfl, h.frT hf (fun g hg => by
      obtain ⟨t, cs, fz, e, h1, _⟩ := hs g hg
      exact ⟨t, cs, fz, e, h1⟩), rfl⟩
  · exact .inr ⟨base, hb, h.frY hf hs⟩
def RowX (w : World) (lo : Nat) (q : RawR) (r : RowM) : Prop := q.eq = r.eq ∧ TMX w lo q.term r.rest r.fs
def HoldX (w : World) (lo : Nat) (L : List RawR) (l : List RowM) : Prop := L.length = l.length ∧ ∀ (i : Nat) (q : RawR) (r : RowM), L[i]? = some q → l[i]? = some r → RowX w lo q r
section
variable {w w' : World} {lo : Nat} {L L' : List RawR} {l l' : List RowM}
theorem HoldX.hold (h : HoldX w lo L l) : HoldR w L l := ⟨h.1, fun i q r hq hr => ⟨(h.2 i q r hq hr).1, (h.2 i q r hq hr).2.tm⟩⟩
theorem HoldX.frY {S : Nat → Prop} (h : HoldX w lo L l) (hf : Fr S w w') (hs : ∀ g, S g → ∃ t cs fz, w.heap[g]? = some (.cells cs t fz) ∧ Ty t) : HoldX w' lo L l := ⟨h.1, fun i q r hq hr => ⟨(h.2 i q r hq hr).1, (h.2 i q r hq hr).2.frY hf hs⟩⟩
theorem HoldX.pu (h : HoldX w lo L l) (p : Pu w w') : HoldX w' lo L l := h.frY p (fun g hg => hg.elim)
theorem HoldX.nil (w : World) (lo : Nat) : HoldX w lo [] [] := ⟨rfl, fun i q r h => by simp at h⟩
theorem HoldX.push {q : RawR} {r : RowM} (h : HoldX w lo L l) (hq : RowX w lo q r) : HoldX w lo (L ++ [q]) (l ++ [r]) := by
  refine ⟨by simp [h.1], fun j p f h1 h2 => ?_⟩
  rcases Nat.lt_or_ge j L.length with hj | hj
  · rw [List.getElem?_append_left hj] at h1
    rw [List.getElem?_append_left (by rw [← h.1]; exact hj)] at h2
    exact h.2 j p f h1 h2
  · rw [List.getElem?_append_right hj] at h1
    rw [List.getElem?_append_right (by rw [← h.1]; exact hj), ← h.1] at h2
    cases hk : j - L.length with
    | zero =>
      rw [hk] at h1 h2
      simp at h1 h2
      subst h1 h2
      exact hq
    | succ k => rw [hk] at h1; simp at h1
end
theorem own_ty {w : World} {base n c k : Nat} {e : TypeId} {A : Option Addr} {xs : List Value} (ho : w.ownsRow base e k (.slice A n c) n xs) (hne : Ty e) : ∀ g, (Value.slice A n c).ownBlock = some g → ∃ t cs fz, w.heap[g]? = some (.cells cs t fz) ∧ Ty t := fun g hg => by
  obtain ⟨_, t, cs, fz, h1, h2⟩ := own_typed ho g hg
  exact ⟨t, cs, fz, h1, by rw [h2]; exact hne⟩
def cell5 (An : Option Addr) (n cn : Nat) (Af : Option Addr) (cf : Nat) (r : RawZ) (e : Bool) : List Value := [.slice An n cn, .slice Af n cf, .int .i64 r.s, .slice r.A r.n r.c, .bool e]
theorem eiR16 : ElemI Tryz.prog 25 91 (.agg #[.slice none 0 0, .slice none 0 0, .int .i64 0, .slice none 0 0, .bool false]) 5 88 := ⟨Tryz.underlying25, by kernel_rfl, rfl, by decide⟩
section
variable {P : Program} {w : World} {ops : Array Oper} {o : Oper} {a : Act} {Q : Exit → Act → World → Prop}
theorem wp_pushB {t e e' : TypeId} {z : Value} {size bytes : Nat} (E : ElemI P t e z size bytes) {K : Act → World → Prop} (hgd : o.guard = none) (s x : Operand)
    (ho : o.op = .call { callee := .builtin .append, args := #[s, x], argTypes := #[t, t] })
    {base n c q : Nat} {A : Option Addr} {xs : List Value} (us : Array Value) (hus : us.size = size) (h1 : ∀ u ∈ us.toList, u.oneCell' = true)
    (hs : a.eval s = .slice A n c) (hx : a.eval x = .slice (some ⟨q, 0, none⟩) 1 1) (hq : Blk w q e' us)
    (hown : w.ownsRow base e size (.slice A n c) n xs) (h63 : n + 1 ≤ maxLen) (hbytes : (n + 1) * bytes ≤ 140737488355328) (hbase : base ≤ w.heap.size)
    (h : ∀ g c' w', w'.ownsRow base e size (.slice (some ⟨g, 0, none⟩) (n + 1) c') (n + 1) (xs ++ us.toList) → w.grownBy w' (Value.slice A n c).ownBlock → ((Value.slice A n c).ownBlock = some g ∨ g = w.heap.size) → K (a.put o.dst (.slice (some ⟨g, 0, none⟩) (n + 1) c')) w') :
    Oper.wp P o a w K Q := by
  have := step_pushB (ops := #[]) (EE := True) (Q := Q) E hgd s x ho us hus h1 hs hx hq hown h63 hbytes hbase h
  rwa [if_pos (by simp [Region.wanted, hgd])] at this
end
end
section
set_option linter.unusedVariables false
set_option linter.unusedSimpArgs false
open Go.RowKit
set_option maxHeartbeats 4000000 in
set_option maxRecDepth 100000 in
theorem lboth_any (A : Option Addr) (n c : Nat) (Q : List RawL) (ls : List LineM) (w0 : World) (h : SlL w0 A n c Q) (hh : HoldL w0 Q ls) (hn : n ≤ 9223372036854775807) :
    Calls Tryz.prog 9 #[.slice A n c] w0 fun e w' => ∃ A1 n1 c1 A2 n2 c2 ok L, e = .returned (.tuple #[.slice A1 n1 c1, .slice A2 n2 c2, .bool ok]) ∧ ok = okL 14 ls ∧ (ok = true → n1 = n ∧ n ≤ 14 ∧ SlR w' A1 n1 c1 L ∧ HoldX w' w0.heap.size L (ls.map rowOf)) ∧ Pu w0 w' := by
  have hlen : Q.length = n := h.len
  have hll := hh.1
  have HL := Lib.hid (And.intro hlen hll)
  clear hlen hll
  by_cases hg : 14 < n
  · have hd : decide ((14 : Int) < (n : Int)) = true := by simp; omega
    have hno := Lib.hid (show okL 14 ls = false by
      unfold okL
      rw [decide_eq_false (show ¬ ls.length ≤ 14 by rw [← HL.out.2, HL.out.1]; omega)]
      rfl)
    go_enter Tryz.func9, Tryz.ntmps9
    go_wp2
    exact bodyPost_ret (v := .tuple #[.slice none 0 0, .slice none 0 0, .bool false]) (by simp [results, Tryz.results9, go_sem]) rfl ⟨none, 0, 0, none, 0, 0, false, [], rfl, hno.out.symm, (fun x => by cases x), Pu.refl _⟩
  have hd : decide ((14 : Int) < (n : Int)) = false := by simp; omega
  go_enter Tryz.func9, Tryz.ntmps9
  go_wp2_with fail
  clear hd
  go_loopw [5, 6, 17] (fun ov wv iv wr => ∃ (i : Nat) (A1 : Option Addr) (c1 : Nat) (A2 : Option Addr) (c2 : Nat) (L : List RawR) (X : List Value), i ≤ n ∧ iv = .int .i64 (i : Int) ∧ ov = .slice A1 i c1 ∧ wv = .slice A2 i c2 ∧ wr.ownsRow w0.heap.size 35 4 (.slice A1 i c1) i (cat RawR.cells L) ∧ wr.ownsRow w0.heap.size 91 5 (.slice A2 i c2) i X ∧ HoldX wr w0.heap.size L ((ls.take i).map rowOf) ∧ Pu w0 wr ∧ ∀ l ∈ ls.take i, okLine l = true) (fun _ _ iv _ => n - (intOf iv).toNat)
  case atStart => exact ⟨0, none, 0, none, 0, [], [], Nat.zero_le _, rfl, rfl, rfl, World.ownsRow_nil _ _ _ _, World.ownsRow_nil _ _ _ _, by simpa using HoldX.nil w0 w0.heap.size, Pu.refl _, fun l hl => by simp at hl⟩
  case round =>
    obtain ⟨i, A1, c1, A2, c2, L, X, hi, rfl, rfl, rfl, ho1, ho2, hH, hP, hall⟩ := hrel
    by_cases hlt : i < n
    · obtain ⟨q, hq⟩ : ∃ q, Q[i]? = some q := ⟨_, List.getElem?_eq_getElem (by rw [HL.out.1]; exact hlt)⟩
      obtain ⟨l, hl, hli⟩ := hh.at_ hq
      obtain ⟨b, off, rfl, hbl, x0, x1, x2⟩ := SlL.at_ (Sl.pu h hP) hq
      obtain ⟨qA, qn, qc, qr, qe⟩ := q
      obtain ⟨he, hr, hnq, hsl, hlo, hhi, hok⟩ := hli
      dsimp only at he hr hnq hsl x0 x1 x2
      subst he hr hnq
      obtain ⟨Y, hYe⟩ : ∃ Y, Y = wr.alloc (.cells #[.slice qA l.ps.length qc, .int .i64 l.rest, .bool l.eq] 89) := ⟨_, rfl⟩
      have pY : Pu wr Y := by rw [hYe]; exact (Pu.refl wr).alloc _
      have k8 : Blk Y wr.heap.size 89 #[.slice qA l.ps.length qc, .int .i64 l.rest, .bool l.eq] := by rw [hYe]; exact Blk.new _ _ _
      have hcall := both_any l.ps l.rest qA qc Y (hsl.pu (hP.trans pY)) hlo hhi hok.each hok.len
      rw [hYe] at hcall
      have Hcall := Lib.hid hcall
      have HYe := Lib.hid hYe
      have Hl := Lib.hid hl
      have hwi : IntKind.i64.wrap ((i : Int) + 1) = (i : Int) + 1 := IntWalk.i64_in _ (by omega)
      clear hq hl hsl hlo hhi hok hcall hYe
      obtain ⟨okm, hokm⟩ : ∃ okm, okM l.ps l.rest = okm := ⟨_, rfl⟩
      have Hok := Lib.hid hokm
      go_wp2_with fail
      refine Hcall.out.mono ?_
      rintro e w3 ⟨v, ok, An, nx, cn, Af, cf, ⟨rs, rA, rn, rc⟩, fs, rfl, hke, htx, hfs, hnx, htr, p3⟩
      rw [hokm] at hke
      subst hke
      rw [← HYe.out] at p3 htx
      obtain ⟨g9, A9, n9, c9, m9, rfl⟩ := htx.tm.shape
      unfold tval
      have hsY := Nat.le_trans hP.size pY.size
      have Hfs := Lib.hid (And.intro htx (And.intro hfs (And.intro hnx htr)))
      clear htx hfs hnx htr hokm Hcall
      cases ok with
      | false =>
        have hno := Lib.hid (okL_stop (m := 14) Hl.out Hok.out)
        have hPf := Lib.hid (((hP.trans (pY.trans p3)).alloc (.cells #[.bool g9, .slice A9 n9 c9, .pointer m9] 33)).alloc (.cells #[.slice An nx cn, .slice Af nx cf, .int .i64 rs, .slice rA rn rc] 56))
        go_wp2
        exact bodyPost_ret (v := .tuple #[.slice none 0 0, .slice none 0 0, .bool false]) (by simp [results, Tryz.results9, go_sem]) rfl ⟨none, 0, 0, none, 0, 0, false, [], rfl, hno.out.symm, (fun x => by cases x), hPf.out⟩
      | true =>
        obtain ⟨V0, hVe⟩ : ∃ V0, V0 = (w3.alloc (.cells #[.bool g9, .slice A9 n9 c9, .pointer m9] 33)).alloc (.cells #[.slice An nx cn, .slice Af nx cf, .int .i64 rs, .slice rA rn rc] 56) := ⟨_, rfl⟩
        have p3V : Pu w3 V0 := by rw [hVe]; exact ((Pu.refl w3).alloc _).alloc _
        have pYV : Pu Y V0 := p3.trans p3V
        have k9 : Blk V0 w3.heap.size 33 #[.bool g9, .slice A9 n9 c9, .pointer m9] := by rw [hVe]; exact (Blk.new w3 _ _).alloc _
        have k10 : Blk V0 (w3.heap.size + 1) 56 #[.slice An nx cn, .slice Af nx cf, .int .i64 rs, .slice rA rn rc] := by rw [hVe]; exact Blk.at_new _ _ _ (by simp)
        have m8 := k8.pu pYV
        have pV : Pu wr V0 := pY.trans pYV
        have ho1V := own_pu ho1 pV
        have ho2V := own_pu ho2 pV
        have hHV := hH.pu pV
        have htx := Hfs.out.1.pu p3V
        have hfs := Hfs.out.2.1 rfl
        have hsV := pYV.size
        have hnS : ∀ {b : Nat} {t : TypeId} {cs : Array Value}, Blk V0 b t cs → t ≠ 35 → ¬ (Value.slice A1 i c1).ownBlock = some b := fun kb ht hS => by
          obtain ⟨_, t', cs', fz, e, et⟩ := own_typed ho1V _ hS
          unfold Blk at kb
          rw [kb] at e
          injection e with e
          injection e with _ e _
          exact ht (e.trans et)
        have hSlt : ∀ b, (Value.slice A1 i c1).ownBlock = some b → b < V0.heap.size := fun b hS => (ho1V.lt b hS).2
        have hallN : ∀ x ∈ ls.take (i + 1), okLine x = true := fun x hx => by
          rw [List.take_add_one, Hl.out] at hx
          rcases List.mem_append.1 hx with h | h
          · exact hall x h
          · have e : x = l := by simpa using h
            rw [e]
            exact Hok.out
        have hnx2 : (ls.take (i + 1)).map rowOf = (ls.take i).map rowOf ++ [rowOf l] := by
          rw [List.take_add_one, Hl.out]
          simp
        have hw0V : w0.heap.size ≤ V0.heap.size := by omega
        have hi14 : i < 14 := by omega
        have HX := Lib.hid (And.intro hallN (And.intro hnx2 (And.intro htx hfs)))
        have HS := Lib.hid (And.intro @hnS hSlt)
        have hPV : Pu w0 V0 := hP.trans pV
        have HVe := Lib.hid hVe
        clear hVe hallN hnx2 htx hfs hnS hSlt hall hH ho1 ho2 k8 p3V p3 pYV pV Hfs
        go_wp2_with fail
        try rw [← HVe.out]
        have pd : Fr (fun kk => (Value.slice A1 i c1).ownBlock = some kk) V0 V0.drew := (Fr.refl _ V0).drew
        refine wp_region_stableA3 13 (fun lst w => Fr (fun kk => (Value.slice A1 i c1).ownBlock = some kk) V0 w ∧ (lst 6 = false → w.ownsRow w0.heap.size 35 4 (.slice A1 i c1) i (cat RawR.cells L))) (fun ko => if ko = 6 then Fr (fun kk => (Value.slice A1 i c1).ownBlock = some kk) else Pu) (fun io => match io with | 0 => fun vv_ _ => vv_ = .slice A1 i c1 | 1 => fun vv_ _ => vv_ = .agg #[.bool g9, .slice A9 n9 c9, .pointer m9] | 2 => fun vv_ _ => vv_ = .pointer (some ⟨wr.heap.size, 2, none⟩) | 3 => fun vv_ _ => vv_ = .bool l.eq | 4 => fun vv_ _ => vv_ = .agg #[.bool g9, .slice A9 n9 c9, .pointer m9, .bool l.eq] | 5 => fun v w => ∃ q, v = .slice (some ⟨q, 0, none⟩) 1 1 ∧ Blk w q 35 #[.bool g9, .slice A9 n9 c9, .pointer m9, .bool l.eq] ∧ V0.heap.size ≤ q | 6 => fun v w => ∃ g c', v = .slice (some ⟨g, 0, none⟩) (i + 1) c' ∧ w.ownsRow w0.heap.size 35 4 (.slice (some ⟨g, 0, none⟩) (i + 1) c') (i + 1) (cat RawR.cells L ++ #[.bool g9, .slice A9 n9 c9, .pointer m9, .bool l.eq].toList) | 7 => fun vv_ _ => vv_ = .slice A2 i c2 | 8 => fun vv_ _ => vv_ = .agg #[.slice An nx cn, .slice Af nx cf, .int .i64 rs, .slice rA rn rc] | 9 => fun vv_ _ => vv_ = .pointer (some ⟨wr.heap.size, 2, none⟩) | 10 => fun vv_ _ => vv_ = .bool l.eq | 11 => fun vv_ _ => vv_ = .agg #[.slice An nx cn, .slice Af nx cf, .int .i64 rs, .slice rA rn rc, .bool l.eq] | 12 => fun v w => ∃ q, v = .slice (some ⟨q, 0, none⟩) 1 1 ∧ Blk w q 91 #[.slice An nx cn, .slice Af nx cf, .int .i64 rs, .slice rA rn rc, .bool l.eq] ∧ V0.heap.size ≤ q | _ => fun _ _ => True) [some 30, some 31, some 32, some 33, some 34, some 35, some 36, some 37, some 38, some 39, some 40, some 41, some 42] (by kernel_rfl) (by kernel_rfl) rfl ⟨pd, fun _ => own_pu ho1V ((Pu.refl V0).drew)⟩ ?_ ?_ ?_ ?_
        · intro ko lst u u' hk hLk hI hR0
          have hR := ite_fr hR0
          exact ⟨hI.1.trans hR, fun h6 => by
              replace h6 : (if 6 = ko then true else lst 6) = false := h6
              by_cases hk6 : ko = 6
              · rw [if_pos hk6.symm] at h6
                cases h6
              · have hR1 := hR0
                rw [if_neg hk6] at hR1
                exact own_pu (hI.2 (by rwa [if_neg (Ne.symm hk6)] at h6)) hR1⟩
        · intro io ko v u u' hi hk hik h hR0
          have hR := ite_fr hR0
          match io, hi, hik, h with
          | 0, _, _, h => exact h
          | 1, _, _, h => exact h
          | 2, _, _, h => exact h
          | 3, _, _, h => exact h
          | 4, _, _, h => exact h
          | 5, _, hik, h =>
            replace h : ∃ q, v = .slice (some ⟨q, 0, none⟩) 1 1 ∧ Blk u q 35 #[.bool g9, .slice A9 n9 c9, .pointer m9, .bool l.eq] ∧ V0.heap.size ≤ q := h
            obtain ⟨q, e, h, h'⟩ := h
            exact ⟨q, e, h.fr hR (fun hS => Nat.lt_irrefl _ (Nat.lt_of_lt_of_le (HS.out.2 q hS) h')), h'⟩
          | 6, _, hik, h =>
            replace h : ∃ g c', v = .slice (some ⟨g, 0, none⟩) (i + 1) c' ∧ u.ownsRow w0.heap.size 35 4 (.slice (some ⟨g, 0, none⟩) (i + 1) c') (i + 1) (cat RawR.cells L ++ #[.bool g9, .slice A9 n9 c9, .pointer m9, .bool l.eq].toList) := h
            have hR := ite_pu hR0 hik
            obtain ⟨g, c', e, h⟩ := h
            exact ⟨g, c', e, own_pu h hR⟩
          | 7, _, _, h => exact h
          | 8, _, _, h => exact h
          | 9, _, _, h => exact h
          | 10, _, _, h => exact h
          | 11, _, _, h => exact h
          | 12, _, hik, h =>
            replace h : ∃ q, v = .slice (some ⟨q, 0, none⟩) 1 1 ∧ Blk u q 91 #[.slice An nx cn, .slice Af nx cf, .int .i64 rs, .slice rA rn rc, .bool l.eq] ∧ V0.heap.size ≤ q := h
            obtain ⟨q, e, h, h'⟩ := h
            exact ⟨q, e, h.fr hR (fun hS => Nat.lt_irrefl _ (Nat.lt_of_lt_of_le (HS.out.2 q hS) h')), h'⟩
          | _ + 13, hi, _, _ => exact absurd hi (by omega)
        · refine StepsS.cons [] rfl (by kernel_rfl) (fun y lst V hLk hV hp K hK => ?_) ?_
          · try dsimp only at hK
            simp only [putsL, upd, Act.put, List.setIfInBounds_toArray, List.set_cons_zero, List.set_cons_succ, Nat.reduceEqDiff, Nat.succ_ne_zero, Nat.reduceAdd, zero_ne_one_, one_ne_zero_, reduceIte] at hK ⊢
            clear hp
            try dsimp only at hV
            go_simp
            exact hK.out _ _ (Pu.refl _) rfl
          refine StepsS.cons [] rfl (by kernel_rfl) (fun y lst V hLk hV hp K hK => ?_) ?_
          · try dsimp only at hK
            simp only [putsL, upd, Act.put, List.setIfInBounds_toArray, List.set_cons_zero, List.set_cons_succ, Nat.reduceEqDiff, Nat.succ_ne_zero, Nat.reduceAdd, zero_ne_one_, one_ne_zero_, reduceIte] at hK ⊢
            clear hp
            try dsimp only at hV
            have x0 := (k9.fr hV.1 (HS.out.1 k9 (by decide))).cell 0
            have x1 := (k9.fr hV.1 (HS.out.1 k9 (by decide))).cell 1
            have x2 := (k9.fr hV.1 (HS.out.1 k9 (by decide))).cell 2
            go_simp
            exact hK.out _ _ (Pu.refl _) rfl
          refine StepsS.cons [] rfl (by kernel_rfl) (fun y lst V hLk hV hp K hK => ?_) ?_
          · try dsimp only at hK
            simp only [putsL, upd, Act.put, List.setIfInBounds_toArray, List.set_cons_zero, List.set_cons_succ, Nat.reduceEqDiff, Nat.succ_ne_zero, Nat.reduceAdd, zero_ne_one_, one_ne_zero_, reduceIte] at hK ⊢
            clear hp
            try dsimp only at hV
            go_simp
            exact hK.out _ _ (Pu.refl _) rfl
          refine StepsS.cons [2] rfl (by kernel_rfl) (fun y lst V hLk hV hp K hK => ?_) ?_
          · try dsimp only at hK
            simp only [putsL, upd, Act.put, List.setIfInBounds_toArray, List.set_cons_zero, List.set_cons_succ, Nat.reduceEqDiff, Nat.succ_ne_zero, Nat.reduceAdd, zero_ne_one_, one_ne_zero_, reduceIte] at hK ⊢
            have e2 := hp 2 (by simp)
            clear hp
            try dsimp only at hV e2
            generalize y 2 = z2 at hK e2 ⊢
            subst e2
            have x0 := (m8.fr hV.1 (HS.out.1 m8 (by decide))).cell 0
            have x1 := (m8.fr hV.1 (HS.out.1 m8 (by decide))).cell 1
            have x2 := (m8.fr hV.1 (HS.out.1 m8 (by decide))).cell 2
            go_simp
            exact hK.out _ _ (Pu.refl _) rfl
          refine StepsS.cons [1, 3] rfl (by kernel_rfl) (fun y lst V hLk hV hp K hK => ?_) ?_
          · try dsimp only at hK
            simp only [putsL, upd, Act.put, List.setIfInBounds_toArray, List.set_cons_zero, List.set_cons_succ, Nat.reduceEqDiff, Nat.succ_ne_zero, Nat.reduceAdd, zero_ne_one_, one_ne_zero_, reduceIte] at hK ⊢
            have e1 := hp 1 (by simp)
            have e3 := hp 3 (by simp)
            clear hp
            try dsimp only at hV e1 e3
            generalize y 1 = z1 at hK e1 ⊢
            generalize y 3 = z3 at hK e3 ⊢
            subst e1
            subst e3
            go_simp
            exact hK.out _ _ (Pu.refl _) rfl
          refine StepsS.cons [4] rfl (by kernel_rfl) (fun y lst V hLk hV hp K hK => ?_) ?_
          · try dsimp only at hK
            simp only [putsL, upd, Act.put, List.setIfInBounds_toArray, List.set_cons_zero, List.set_cons_succ, Nat.reduceEqDiff, Nat.succ_ne_zero, Nat.reduceAdd, zero_ne_one_, one_ne_zero_, reduceIte] at hK ⊢
            have e4 := hp 4 (by simp)
            clear hp
            try dsimp only at hV e4
            generalize y 4 = z4 at hK e4 ⊢
            subst e4
            go_simp
            exact hK.out _ _ ((Pu.refl _).alloc _) ⟨_, rfl, Blk.new _ _ _, hV.1.size⟩
          refine StepsS.cons [0, 5] rfl (by kernel_rfl) (fun y lst V hLk hV hp K hK => ?_) ?_
          · try dsimp only at hK
            simp only [putsL, upd, Act.put, List.setIfInBounds_toArray, List.set_cons_zero, List.set_cons_succ, Nat.reduceEqDiff, Nat.succ_ne_zero, Nat.reduceAdd, zero_ne_one_, one_ne_zero_, reduceIte] at hK ⊢
            have e0 := hp 0 (by simp)
            have e5 := hp 5 (by simp)
            clear hp
            try dsimp only at hV e0 e5
            generalize y 0 = z0 at hK e0 ⊢
            generalize y 5 = z5 at hK e5 ⊢
            subst e0
            obtain ⟨q5, rfl, hB5, hq5⟩ := e5
            have hoU := hV.2 hLk
            have hbs : w0.heap.size ≤ V.heap.size := Nat.le_trans hw0V hV.1.size
            refine wp_pushB eiRow (by rfl) _ _ (by rfl) #[.bool g9, .slice A9 n9 c9, .pointer m9, .bool l.eq] (by rfl) (RawR.cells_one ⟨g9, A9, n9, c9, m9, l.eq⟩) (by rfl) (by rfl) hB5 hoU (by simp [maxLen]; omega) (by omega) hbs ?_
            intro g4 c4 w4 ho4 hg4 hw4
            try simp only [putsL, upd, Act.put, List.setIfInBounds_toArray, List.set_cons_zero, List.set_cons_succ, Nat.reduceEqDiff, Nat.succ_ne_zero, Nat.reduceAdd, zero_ne_one_, one_ne_zero_, reduceIte]
            exact hK.out _ _ (Fr.of_grown hg4) ⟨g4, c4, rfl, ho4⟩
          refine StepsS.cons [] rfl (by kernel_rfl) (fun y lst V hLk hV hp K hK => ?_) ?_
          · try dsimp only at hK
            simp only [putsL, upd, Act.put, List.setIfInBounds_toArray, List.set_cons_zero, List.set_cons_succ, Nat.reduceEqDiff, Nat.succ_ne_zero, Nat.reduceAdd, zero_ne_one_, one_ne_zero_, reduceIte] at hK ⊢
            clear hp
            try dsimp only at hV
            go_simp
            exact hK.out _ _ (Pu.refl _) rfl
          refine StepsS.cons [] rfl (by kernel_rfl) (fun y lst V hLk hV hp K hK => ?_) ?_
          · try dsimp only at hK
            simp only [putsL, upd, Act.put, List.setIfInBounds_toArray, List.set_cons_zero, List.set_cons_succ, Nat.reduceEqDiff, Nat.succ_ne_zero, Nat.reduceAdd, zero_ne_one_, one_ne_zero_, reduceIte] at hK ⊢
            clear hp
            try dsimp only at hV
            have x0 := (k10.fr hV.1 (HS.out.1 k10 (by decide))).cell 0
            have x1 := (k10.fr hV.1 (HS.out.1 k10 (by decide))).cell 1
            have x2 := (k10.fr hV.1 (HS.out.1 k10 (by decide))).cell 2
            have x3 := (k10.fr hV.1 (HS.out.1 k10 (by decide))).cell 3
            go_simp
            exact hK.out _ _ (Pu.refl _) rfl
          refine StepsS.cons [] rfl (by kernel_rfl) (fun y lst V hLk hV hp K hK => ?_) ?_
          · try dsimp only at hK
            simp only [putsL, upd, Act.put, List.setIfInBounds_toArray, List.set_cons_zero, List.set_cons_succ, Nat.reduceEqDiff, Nat.succ_ne_zero, Nat.reduceAdd, zero_ne_one_, one_ne_zero_, reduceIte] at hK ⊢
            clear hp
            try dsimp only at hV
            go_simp
            exact hK.out _ _ (Pu.refl _) rfl
          refine StepsS.cons [9] rfl (by kernel_rfl) (fun y lst V hLk hV hp K hK => ?_) ?_
          · try dsimp only at hK
            simp only [putsL, upd, Act.put, List.setIfInBounds_toArray, List.set_cons_zero, List.set_cons_succ, Nat.reduceEqDiff, Nat.succ_ne_zero, Nat.reduceAdd, zero_ne_one_, one_ne_zero_, reduceIte] at hK ⊢
            have e9 := hp 9 (by simp)
            clear hp
            try dsimp only at hV e9
            generalize y 9 = z9 at hK e9 ⊢
            subst e9
            have x0 := (m8.fr hV.1 (HS.out.1 m8 (by decide))).cell 0
            have x1 := (m8.fr hV.1 (HS.out.1 m8 (by decide))).cell 1
            have x2 := (m8.fr hV.1 (HS.out.1 m8 (by decide))).cell 2
            go_simp
            exact hK.out _ _ (Pu.refl _) rfl
          refine StepsS.cons [8, 10] rfl (by kernel_rfl) (fun y lst V hLk hV hp K hK => ?_) ?_
          · try dsimp only at hK
            simp only [putsL, upd, Act.put, List.setIfInBounds_toArray, List.set_cons_zero, List.set_cons_succ, Nat.reduceEqDiff, Nat.succ_ne_zero, Nat.reduceAdd, zero_ne_one_, one_ne_zero_, reduceIte] at hK ⊢
            have e8 := hp 8 (by simp)
            have e10 := hp 10 (by simp)
            clear hp
            try dsimp only at hV e8 e10
            generalize y 8 = z8 at hK e8 ⊢
            generalize y 10 = z10 at hK e10 ⊢
            subst e8
            subst e10
            go_simp
            exact hK.out _ _ (Pu.refl _) rfl
          refine StepsS.cons [11] rfl (by kernel_rfl) (fun y lst V hLk hV hp K hK => ?_) ?_
          · try dsimp only at hK
            simp only [putsL, upd, Act.put, List.setIfInBounds_toArray, List.set_cons_zero, List.set_cons_succ, Nat.reduceEqDiff, Nat.succ_ne_zero, Nat.reduceAdd, zero_ne_one_, one_ne_zero_, reduceIte] at hK ⊢
            have e11 := hp 11 (by simp)
            clear hp
            try dsimp only at hV e11
            generalize y 11 = z11 at hK e11 ⊢
            subst e11
            go_simp
            exact hK.out _ _ ((Pu.refl _).alloc _) ⟨_, rfl, Blk.new _ _ _, hV.1.size⟩
          exact StepsS.nil
        · intro y V lst hL hV hp
          have f0 := hp 0 (by decide)
          have f1 := hp 1 (by decide)
          have f2 := hp 2 (by decide)
          have f3 := hp 3 (by decide)
          have f4 := hp 4 (by decide)
          have f5 := hp 5 (by decide)
          have f6 := hp 6 (by decide)
          have f7 := hp 7 (by decide)
          have f8 := hp 8 (by decide)
          have f9 := hp 9 (by decide)
          have f10 := hp 10 (by decide)
          have f11 := hp 11 (by decide)
          have f12 := hp 12 (by decide)
          clear hp
          try dsimp only at hV f0 f1 f2 f3 f4 f5 f6 f7 f8 f9 f10 f11 f12
          simp only [putsL, upd, Act.put, List.setIfInBounds_toArray, List.set_cons_zero, List.set_cons_succ, Nat.reduceEqDiff, Nat.succ_ne_zero, Nat.reduceAdd, zero_ne_one_, one_ne_zero_, reduceIte]
          generalize y 0 = z0 at f0 ⊢
          generalize y 1 = z1 at f1 ⊢
          generalize y 2 = z2 at f2 ⊢
          generalize y 3 = z3 at f3 ⊢
          generalize y 4 = z4 at f4 ⊢
          generalize y 5 = z5 at f5 ⊢
          generalize y 6 = z6 at f6 ⊢
          generalize y 7 = z7 at f7 ⊢
          generalize y 8 = z8 at f8 ⊢
          generalize y 9 = z9 at f9 ⊢
          generalize y 10 = z10 at f10 ⊢
          generalize y 11 = z11 at f11 ⊢
          generalize y 12 = z12 at f12 ⊢
          subst f0
          subst f1
          subst f2
          subst f3
          subst f4
          subst f7
          subst f8
          subst f9
          subst f10
          subst f11
          clear f5
          obtain ⟨g6, c6, rfl, ho6⟩ := f6
          obtain ⟨q12, rfl, hB12, hq12⟩ := f12
          have hF1 := hV.1
          have ho2U : V.ownsRow w0.heap.size 91 5 (.slice A2 i c2) i X := own_fr ho2V hF1 (fun g hg hS => by
              obtain ⟨_, t', cs', fz, e, et⟩ := own_typed ho2V g hg
              obtain ⟨_, t2, cs2, fz2, e2, et2⟩ := own_typed ho1V g hS
              rw [e] at e2
              injection e2 with e2
              injection e2 with _ e2 _
              rw [et, et2] at e2
              exact absurd e2 (by decide))
          have hHU := hHV.frY hF1 (own_ty ho1V ⟨by decide, by decide, by decide⟩)
          have htxU := HX.out.2.2.1.frY hF1 (own_ty ho1V ⟨by decide, by decide, by decide⟩)
          have hbs : w0.heap.size ≤ V.heap.size := Nat.le_trans hw0V hF1.size
          have hPU : Pu w0 V := hPV.step hF1 (fun k hk => (ho1V.lt k hk).1)
          go_wp2_with (at_builtin; refine wpList_pushB eiR16 rfl _ _ rfl #[.slice An nx cn, .slice Af nx cf, .int .i64 rs, .slice rA rn rc, .bool l.eq] rfl (by intro u hu; simp at hu; rcases hu with rfl | rfl | rfl | rfl | rfl <;> rfl) rfl rfl hB12 ho2U (by simp [maxLen]; omega) (by omega) hbs ?_)
          intro g4 c4 w4 ho4 hg4 hw4
          have hF4 := Fr.of_grown hg4
          have ho64 := own_fr ho6 hF4 (fun g hg hS => by
              obtain ⟨_, t', cs', fz, e, et⟩ := own_typed ho6 g hg
              obtain ⟨_, t2, cs2, fz2, e2, et2⟩ := own_typed ho2U g hS
              rw [e] at e2
              injection e2 with e2
              injection e2 with _ e2 _
              rw [et, et2] at e2
              exact absurd e2 (by decide))
          have hH4 := (hHU.frY hF4 (own_ty ho2U ⟨by decide, by decide, by decide⟩)).push (q := ⟨g9, A9, n9, c9, m9, l.eq⟩) (r := rowOf l) ⟨rfl, by
              have h1 := htxU.frY hF4 (own_ty ho2U ⟨by decide, by decide, by decide⟩)
              rw [HX.out.2.2.2] at h1
              exact h1.lo_ hsY⟩
          have hP4 : Pu w0 w4 := hPU.step hF4 (fun k hk => (ho2U.lt k hk).1)
          have HF := Lib.hid (And.intro ho64 (And.intro ho4 (And.intro hH4 hP4)))
          clear ho64 ho4 hH4 hP4 hF4 hg4 hw4 ho2U hHU htxU ho6 hPU
          go_wp2
          go_roundw
          case rel => exact ⟨i + 1, some ⟨g6, 0, none⟩, c6, some ⟨g4, 0, none⟩, c4, L ++ [⟨g9, A9, n9, c9, m9, l.eq⟩], _, by omega, by go_num, rfl, rfl, by rw [cat_append, cat_one]; exact HF.out.1, HF.out.2.1, by rw [HX.out.2.1]; exact HF.out.2.2.1, HF.out.2.2.2, HX.out.1⟩
          case measure => simp [intOf]; omega
    · obtain rfl : i = n := by omega
      have hyes := Lib.hid (show okL 14 ls = true from okL_all (by rw [← HL.out.2, HL.out.1]; omega) (fun l hl => hall l (by rw [List.take_of_length_le (by rw [← HL.out.2, HL.out.1]; omega)]; exact hl)))
      have hfin : (ls.take i).map rowOf = ls.map rowOf := by rw [List.take_of_length_le (by rw [← HL.out.2, HL.out.1]; omega)]
      rw [hfin] at hH
      have hs1 := Sl.of_own ho1
      have hi14 : i ≤ 14 := by omega
      have HF := Lib.hid (And.intro hs1 (And.intro hH hP))
      clear hfin hH ho1 ho2 hs1 hall
      go_wp2
      exact bodyPost_ret (v := .tuple #[.slice A1 i c1, .slice A2 i c2, .bool true]) (by simp [results, Tryz.results9, go_sem]) rfl ⟨A1, i, c1, A2, i, c2, true, L, rfl, hyes.out.symm, (fun _ => ⟨rfl, hi14, HF.out.1, HF.out.2.1⟩), HF.out.2.2⟩
end
end Go.Proofs.YtckfnbckoclhpaaGreatDoor
