/- Rows: the sort of rows, whatever their number. Rows: the tidy system. -/
import Derived.Test.YtckfnbckoclhpaaGreatDoorE20
import Derived.Shelf.SlSortCmp.NoneTotal
import Derived.Test.YtckfnbckoclhpaaGreatDoorE21
namespace Go.Proofs.YtckfnbckoclhpaaGreatDoor
section
set_option linter.unusedVariables false
open Go.RowKit
abbrev Rw (w : World) (base : Nat) := { p : RawR × RowM // RowO w base p.1 p.2 ∧ Sml p.2 }
def encR {w : World} {base : Nat} (x : Rw w base) : List Value := x.1.1.cells
def cfR {w : World} {base : Nat} (x y : Rw w base) : Int := orderM x.1.2 y.1.2
theorem lt_bef {w : World} {base : Nat} (x y : Rw w base) : ltOf cfR x y = true ↔ befR x.1.2 y.1.2 := by
  unfold ltOf cfR befR
  simp
theorem not_lt_bef {w : World} {base : Nat} (x y : Rw w base) : ltOf cfR x y = false ↔ ¬ befR x.1.2 y.1.2 := by
  rw [← lt_bef]
  simp
theorem swoR (w : World) (base : Nat) : Sort.SWO (ltOf (cfR (w := w) (base := base))) where
  irrefl x := (not_lt_bef x x).2 (befR_irr _)
  trans x y z h1 h2 := (lt_bef x z).2 (befR_trans ((lt_bef x y).1 h1) ((lt_bef y z).1 h2))
  ntrans x y z h1 h2 := (not_lt_bef x z).2 (not_bef ((not_lt_bef y z).1 h2) ((not_lt_bef x y).1 h1))
theorem sort_fr {α : Type} [Inhabited α] (enc : α → List Value) (k : Nat) (w : World) (blk off m : Nat) (d : Array α) (os : Array Obj) : Fr (fun i => i = blk) w (sortWorldK enc k w blk off m d os) := by
  unfold sortWorldK Sort.grow Sort.putRowK Sort.putRow
  refine ⟨rfl, rfl, rfl, ?_, fun j hj hs => ?_⟩
  · simp [Sort.mapBlock, Sort.ahead]
  · have hj' : j < (Sort.mapBlock (Sort.ahead w m) blk (Sort.putCells id off (Sort.flatK enc k d))).heap.size := by simpa [Sort.mapBlock, Sort.ahead] using hj
    show ((Sort.mapBlock (Sort.ahead w m) blk (Sort.putCells id off (Sort.flatK enc k d))).heap ++ os)[j]? = _
    rw [Array.getElem?_append_left hj']
    simp [Sort.mapBlock, Sort.ahead, Array.getElem?_modify]
    intro e
    exact absurd e.symm hs
theorem grow_of {W w' : World} (p : Pu W w') (hd : W.drawn ≤ w'.drawn) : ∃ q os, w' = Sort.grow (W.drewN q) os := by
  refine ⟨w'.drawn - W.drawn, w'.heap.extract W.heap.size w'.heap.size, ?_⟩
  have h1 := p.os
  have h2 := p.tape
  have h3 := p.output
  have h4 := p.size
  have h5 := fun k hk => p.block k hk (fun x => x)
  obtain ⟨heap, tape, drawn, os, output⟩ := W
  obtain ⟨heap', tape', drawn', os', output'⟩ := w'
  dsimp only at h1 h2 h3 h4 h5 hd
  subst h1 h2 h3
  have eh : heap' = heap ++ heap'.extract heap.size heap'.size := by
    apply Array.ext_getElem?
    intro k
    by_cases hk : k < heap.size
    · rw [Array.getElem?_append_left hk]
      exact h5 k hk
    · rw [Array.getElem?_append_right (by omega), Array.getElem?_extract]
      by_cases hk2 : k < heap'.size
      · rw [if_pos (by omega)]
        congr 1
        omega
      · rw [if_neg (by omega), Array.getElem?_eq_none (by omega)]
  have ed : drawn' = drawn + (drawn' - drawn) := by omega
  unfold Sort.grow World.drewN
  dsimp only
  rw [← eh, ← ed]
theorem cmp_lays {w : World} {base blk off size : Nat} {cs : Array Value} [Inhabited (Rw w base)] (kb : Blk w blk 35 cs) (hb : base ≤ blk) : CmpLays Tryz.prog 39 #[] (encR (w := w) (base := base)) 4 cfR blk off size w := by
  intro m os dk _ x y
  have hF := sort_fr (encR (w := w) (base := base)) 4 w blk off m dk os
  have hq : Qf base w (sortWorldK encR 4 w blk off m dk os) := Qf.of hF (fun g hg => by
    subst hg
    exact ⟨hb, _, _, _, kb, by decide⟩)
  have h := order_any x.1.1 y.1.1 x.1.2 y.1.2 (sortWorldK encR 4 w blk off m dk os) (x.2.1.qf hq).is (y.2.1.qf hq).is x.2.2 y.2.2
  have h2 := calls_drawn h (fun e w' hr => ⟨_, hr.1⟩)
  have h3 : Calls Tryz.prog 39 #[x.1.1.val, y.1.1.val] (sortWorldK encR 4 w blk off m dk os) fun e w' => e = .returned (.int .i64 (cfR x y)) ∧ ∃ q os', w' = Sort.grow ((sortWorldK encR 4 w blk off m dk os).drewN q) os' := h2.mono fun e w' hr => ⟨hr.1.1, grow_of hr.1.2 hr.2⟩
  exact h3
theorem flat_get {α : Type} [Inhabited α] (enc : α → List Value) (k : Nat) (d : Array α) (i c : Nat) (hi : i < d.size) (hc : c < k) : (Sort.flatK enc k d)[i * k + c]! = (enc d[i]!)[c]! := by
  have lt : i * k + c < d.size * k := by
    have := Nat.mul_le_mul_right k (show i + 1 ≤ d.size from hi)
    rw [Nat.add_mul, Nat.one_mul] at this
    omega
  have e1 : (i * k + c) / k = i := (Sort.blk_iff k i _ (by omega)).1 ⟨by omega, by omega⟩
  have e2 : (i * k + c) % k = c := by
    rw [Nat.mod_eq_sub_div_mul, e1]
    omega
  rw [Sort.get_flatK _ _ _ _ lt, e1, e2]
def elems {w : World} {base : Nat} {L : List RawR} {l : List RowM} (h : HoldO w base L l) (hs : ∀ r ∈ l, Sml r) : List (Rw w base) :=
  (List.range L.length).attach.map fun i => ⟨(L[i.1]'(List.mem_range.1 i.2), l[i.1]'(by rw [← h.1]; exact List.mem_range.1 i.2)),
    h.2 i.1 _ _ (List.getElem?_eq_getElem (List.mem_range.1 i.2)) (List.getElem?_eq_getElem (by rw [← h.1]; exact List.mem_range.1 i.2)), hs _ (List.getElem_mem ..)⟩
theorem elems_raw {w : World} {base : Nat} {L : List RawR} {l : List RowM} (h : HoldO w base L l) (hs : ∀ r ∈ l, Sml r) : (elems h hs).map (·.1.1) = L := by
  unfold elems
  rw [List.map_map]
  apply List.ext_getElem
  · simp
  · intro i h1 h2
    simp
theorem elems_say {w : World} {base : Nat} {L : List RawR} {l : List RowM} (h : HoldO w base L l) (hs : ∀ r ∈ l, Sml r) : (elems h hs).map (·.1.2) = l := by
  unfold elems
  rw [List.map_map]
  apply List.ext_getElem
  · simp [h.1]
  · intro i h1 h2
    simp
theorem hold_elems {w w' : World} {base : Nat} (d : List (Rw w base)) (hq : Qf base w w') : HoldO w' base (d.map (·.1.1)) (d.map (·.1.2)) := by
  refine ⟨by simp, fun i q r h1 h2 => ?_⟩
  rw [List.getElem?_map] at h1 h2
  cases e : d[i]? with
  | none =>
    rw [e] at h1
    cases h1
  | some x =>
    rw [e] at h1 h2
    injection h1 with h1
    injection h2 with h2
    subst h1 h2
    exact x.2.1.qf hq
theorem sort_any (base n c : Nat) (A : Option Addr) (L : List RawR) (l : List RowM) (w : World) (ho : w.ownsRow base 35 4 (.slice A n c) n (cat RawR.cells L)) (hh : HoldO w base L l) (hs : ∀ r ∈ l, Sml r) (hn : n < 4611686018427387904) :
    Calls Tryz.prog 38 #[.slice A n c, .func (.func 39) #[] #[]] w fun e w' => e = .returned (.tuple #[]) ∧ ∃ L' l', l'.Perm l ∧ SortedR l' ∧ SlR w' A n c L' ∧ HoldO w' base L' l' ∧ Qf base w w' := by
  have hsl := Sl.of_own ho
  have hlen : L.length = n := SlR.len hsl
  rcases Nat.eq_zero_or_pos n with h0 | h0
  · subst h0
    have h1 := AnyF.slices_SortFunc_none { Tryz.laysSort with } A c (.func (.func 39) #[] #[]) w
    refine Calls.mono h1 ?_
    rintro e w' ⟨he, rfl⟩
    obtain rfl : L = [] := List.eq_nil_of_length_eq_zero hlen
    obtain rfl : l = [] := List.eq_nil_of_length_eq_zero (by rw [← hh.1]; rfl)
    exact ⟨he, [], [], List.Perm.refl _, List.Pairwise.nil, hsl, hh, (Pu.refl _).qf base⟩
  · obtain ⟨blk, cur, rfl, hbb, kb, hnc, hcm, hsz, htk⟩ := own_blk ho h0
    have hE : (elems hh hs).length = n := by
      have := congrArg List.length (elems_raw hh hs)
      rw [List.length_map, hlen] at this
      exact this
    haveI : Inhabited (Rw w base) := ⟨(elems hh hs)[0]'(by omega)⟩
    have hds : (elems hh hs).toArray.size = n := by simpa using hE
    have hget : ∀ i, (hi : i < n) → (elems hh hs).toArray[i]! = (elems hh hs)[i]'(by omega) := fun i hi => by
      rw [getElem!_pos _ i (by omega)]
      simp
    have hH : Sort.HoldsK encR 4 w blk 0 (elems hh hs).toArray := by
      intro j hj
      rw [Sort.size_flatK, hds] at hj
      refine ⟨?_, kb.frozen _⟩
      rw [kb.cell]
      have hj4 : j / 4 < n := by omega
      have e1 : j = j / 4 * 4 + j % 4 := by omega
      have e2 : (Sort.flatK encR 4 (elems hh hs).toArray)[j]! = (encR ((elems hh hs)[j / 4]'(by omega)))[j % 4]! := by
        conv => lhs; rw [e1]
        rw [flat_get _ _ _ _ _ (by omega) (by omega), hget _ hj4]
      show _ = some ((Sort.flatK encR 4 (elems hh hs).toArray)[j]!)
      rw [e2]
      have hraw : L[j / 4]? = some ((elems hh hs)[j / 4]'(by omega)).1.1 := by
        have := congrArg (fun x : List RawR => x[j / 4]?) (elems_raw hh hs)
        rw [← this, List.getElem?_map, List.getElem?_eq_getElem (by omega)]
        rfl
      have h2 := cat_get RawR.cells_len hraw (j % 4) (by omega)
      rw [← e1, ← htk, List.getElem?_take, if_pos hj] at h2
      have h3 : cur[0 + j]? = cur.toList[j]? := by simp
      rw [h3, h2]
      unfold encR
      rw [List.getElem!_eq_getElem?_getD, List.getElem?_eq_getElem (by rw [RawR.cells_len]; omega)]
      rfl
    have eg : ∀ args w, (callFunc 39 args).run Tryz.prog w = .ok (.enter 39 args) w := enters_of Tryz.func39 (by kernel_rfl) rfl
    have hcon := AnyQ.slices_SortFunc Tryz.laysSort 4 Tryz.isAgg35 Tryz.sizeOf35 (encR (w := w) (base := base)) (fun x => RawR.cells_len _) (fun x => RawR.cells_one _) cfR (swoR w base) 39 #[] blk 0 c (elems hh hs).toArray w eg (cmp_lays kb hbb) hH kb.lt (by rw [hds]; exact hn)
    rw [hds] at hcon
    refine Calls.mono hcon ?_
    rintro e w' ⟨he, d', m, os, hperm, hsort, rfl⟩
    have hF := sort_fr (encR (w := w) (base := base)) 4 w blk 0 m d' os
    have hq : Qf base w (sortWorldK encR 4 w blk 0 m d' os) := Qf.of hF (fun g hg => by
      subst hg
      exact ⟨hbb, _, _, _, kb, by decide⟩)
    have hd' : d'.size = n := hperm.1.trans hds
    have hH2 : Sort.HoldsK encR 4 (sortWorldK encR 4 w blk 0 m d' os) blk 0 d' := holdsK_sortWorldK_c encR 4 w blk 0 _ d' m os hH kb.lt hperm.1
    have hpl : d'.toList.Perm (elems hh hs) := by
      have := hperm.2.2
      rw [Array.extract_eq_self_of_le (by omega), Array.extract_eq_self_of_le (by omega)] at this
      simpa using this
    refine ⟨he, d'.toList.map (·.1.1), d'.toList.map (·.1.2), ?_, ?_, ?_, hold_elems _ hq, hq⟩
    · have := hpl.map (·.1.2)
      rw [elems_say] at this
      exact this
    · refine List.pairwise_iff_getElem.2 (fun i j hi hj hij => ?_)
      rw [List.length_map, Array.length_toList, hd'] at hi hj
      have h1 := hsort i j (Nat.zero_le _) hij hj
      rw [getElem!_pos d' i (by omega), getElem!_pos d' j (by omega)] at h1
      simp only [List.getElem_map, Array.getElem_toList]
      exact (not_lt_bef _ _).1 h1
    · refine ⟨?_, hnc, fun _ => ⟨blk, 0, rfl, Nat.lt_of_lt_of_le kb.lt hF.size, fun j u hu => ?_⟩⟩
      · rw [cat_len RawR.cells_len, List.length_map, Array.length_toList, hd']
      · have hj := (List.getElem?_eq_some_iff.1 hu).1
        rw [cat_len RawR.cells_len, List.length_map, Array.length_toList, hd'] at hj
        have hj4 : j / 4 < n := by omega
        have e1 : j = j / 4 * 4 + j % 4 := by omega
        have h1 := (hH2.cell (i := j / 4) (c := j % 4) (by omega) (by omega)).1
        have h2 := cat_get RawR.cells_len (l := d'.toList.map (·.1.1)) (j := j / 4) (q := (d'[j / 4]'(by omega)).1.1) (by rw [List.getElem?_map, List.getElem?_eq_getElem (by simp; omega)]; simp) (j % 4) (by omega)
        rw [← e1, hu] at h2
        rw [show (0 + j / 4 * 4 + j % 4) = 0 + j by omega] at h1
        rw [h1, getElem!_pos d' _ (by omega), List.getElem!_eq_getElem?_getD]
        unfold encR
        rw [← h2]
        rfl
end
section
set_option linter.unusedVariables false
open Go.RowKit
def TidyOf (w : World) (s : Bool × List (Key × Pr)) (x : Ending) (w' : World) : Prop :=
  ∃ A n c, x = .returned (.tuple #[.slice A n c, .bool (s.1 && allOk s.2)]) ∧ Pu w w' ∧
    ((s.1 && allOk s.2) = true → ∃ L' l', l'.Perm (allRows s.2) ∧ SortedR l' ∧ SlR w' A n c L' ∧ HoldO w' w.heap.size L' l') ∧
    ((s.1 && allOk s.2) = false → A = none ∧ n = 0 ∧ c = 0)
theorem take_learn {l : List RowM} {i : Nat} {r : RowM} (h : l[i]? = some r) (s : Bool × List (Key × Pr)) : (l.take (i + 1)).foldl learnM s = learnM ((l.take i).foldl learnM s) r := by
  rw [List.take_add_one, h, List.foldl_append]
  rfl
theorem take_rows {ps : List (Key × Pr)} {i : Nat} {k : Key} {p : Pr} (h : ps[i]? = some (k, p)) : allRows (ps.take (i + 1)) = allRows (ps.take i) ++ (rowsM p).1 := by
  unfold allRows
  rw [List.take_add_one, h, List.flatMap_append]
  simp
theorem take_ok {ps : List (Key × Pr)} {i : Nat} {k : Key} {p : Pr} (h : ps[i]? = some (k, p)) (b : Bool) : (b && allOk (ps.take (i + 1))) = ((b && allOk (ps.take i)) && (rowsM p).2) := by
  unfold allOk
  rw [List.take_add_one, h, List.all_append, Bool.and_assoc]
  simp
theorem cat_one_cell (L : List RawR) : ∀ u ∈ cat RawR.cells L, u.oneCell' = true := fun u hu => by
  obtain ⟨q, _, hq⟩ := List.mem_flatMap.1 hu
  exact q.cells_one u hq
structure Rest (w : World) (base tb mb i : Nat) (ok : Bool) (LG : List (Key × Nat)) (ps : List (Key × Pr)) (Ao : Option Addr) (no co : Nat) (B : Nat) (Lo : List RawR) (lo : List RowM) : Prop where
  blk : Blk w tb 97 #[.pointer (some ⟨mb, 0, none⟩), .bool ok]
  own : w.ownsRow B 35 4 (.slice Ao no co) no (cat RawR.cells Lo)
  hold : HoldO w base Lo lo
  pr : ∀ j x y, i ≤ j → LG[j]? = some x → ps[j]? = some y → PairIs w base (fun b => base ≤ b) x.2 y.2
theorem Rest.pu {w w' : World} {base tb mb i : Nat} {ok : Bool} {LG : List (Key × Nat)} {ps : List (Key × Pr)} {Ao : Option Addr} {no co B : Nat} {Lo : List RawR} {lo : List RowM} (h : Rest w base tb mb i ok LG ps Ao no co B Lo lo) (p : Pu w w') : Rest w' base tb mb i ok LG ps Ao no co B Lo lo :=
  ⟨h.blk.pu p, own_pu h.own p, h.hold.pu p, fun j x y hj hx hy => (h.pr j x y hj hx hy).pu p⟩
theorem Rest.turn {w w' : World} {base tb mb i : Nat} {ok : Bool} {LG : List (Key × Nat)} {ps : List (Key × Pr)} {Ao : Option Addr} {no co B : Nat} {Lo : List RawR} {lo : List RowM} {k : Key} {q : Nat} {cs : Array Value} (h : Rest w base tb mb i ok LG ps Ao no co B Lo lo) (hnd : (LG.map (·.2)).Nodup) (hq : LG[i]? = some (k, q)) (kq : Blk w q 159 cs) (hb : base ≤ q) (f : Fr (fun j => j = q) w w') :
    Rest w' base tb mb (i + 1) ok LG ps Ao no co B Lo lo := by
  have hS : ∀ g, g = q → base ≤ g ∧ ∃ t cs fz, w.heap[g]? = some (.cells cs t fz) ∧ Tt t := fun g hg => by
    subst hg
    exact ⟨hb, _, _, _, kq, by decide⟩
  refine ⟨h.blk.fr f (h.blk.ne_ kq (by decide)), own_fr h.own f (fun g hg e => own_other h.own kq (by decide) (by rw [hg, e])), h.hold.qf (Qf.of f hS), fun j x y hj hx hy => (h.pr j x y (by omega) hx hy).fr f hS (fun e => ?_)⟩
  have e1 : (LG.map (·.2))[j]? = some q := by rw [List.getElem?_map, hx]; exact congrArg some e
  have e2 : (LG.map (·.2))[i]? = some q := by rw [List.getElem?_map, hq]; rfl
  obtain ⟨i1, a1⟩ := List.getElem?_eq_some_iff.1 e1
  obtain ⟨i2, a2⟩ := List.getElem?_eq_some_iff.1 e2
  exact List.pairwise_iff_getElem.1 hnd _ _ i2 i1 (by omega) (a2.trans a1.symm)
theorem Rest.set_ok {w : World} {base tb mb i : Nat} {ok : Bool} {LG : List (Key × Nat)} {ps : List (Key × Pr)} {Ao : Option Addr} {no co B : Nat} {Lo : List RawR} {lo : List RowM} (h : Rest w base tb mb i ok LG ps Ao no co B Lo lo) (hb : base ≤ tb) (hps : LG.length = ps.length) (b : Bool) :
    Rest (w.setCell ⟨tb, 1, none⟩ (.bool b)) base tb mb i b LG ps Ao no co B Lo lo := by
  have f := Fr.one w tb 1 (.bool b)
  have hS : ∀ g, g = tb → base ≤ g ∧ ∃ t cs fz, w.heap[g]? = some (.cells cs t fz) ∧ Tt t := fun g hg => by
    subst hg
    exact ⟨hb, _, _, _, h.blk, by decide⟩
  refine ⟨h.blk.set_ 1 _, own_fr h.own f (fun g hg e => own_other h.own h.blk (by decide) (by rw [hg, e])), h.hold.qf (Qf.of f hS), fun j x y hj hx hy => ?_⟩
  have hp := h.pr j x y hj hx hy
  obtain ⟨a1, a2, a3, a4, a5, a6, a7, a8, hp2⟩ := hp
  exact PairIs.fr ⟨a1, a2, a3, a4, a5, a6, a7, a8, hp2⟩ f hS (hp2.blk.ne_ h.blk (by decide))
theorem Rest.app {w w' : World} {base tb mb i : Nat} {ok : Bool} {LG : List (Key × Nat)} {ps : List (Key × Pr)} {Ao : Option Addr} {no co B : Nat} {Lo : List RawR} {lo : List RowM} (h : Rest w base tb mb i ok LG ps Ao no co B Lo lo) (hB : base ≤ B) {A' : Option Addr} {n4 c' : Nat} {L4 : List RawR} {l4 : List RowM} (ho : w'.ownsRow B 35 4 (.slice A' (no + n4) c') (no + n4) (cat RawR.cells Lo ++ cat RawR.cells L4)) (hg : w.grownBy w' (Value.slice Ao no co).ownBlock) (h4 : HoldO w base L4 l4) :
    Rest w' base tb mb i ok LG ps A' (no + n4) c' B (Lo ++ L4) (lo ++ l4) := by
  have hS : ∀ g, (Value.slice Ao no co).ownBlock = some g → base ≤ g ∧ ∃ t cs fz, w.heap[g]? = some (.cells cs t fz) ∧ Tt t := fun g hg => by
    obtain ⟨h1, t, cs, fz, h2, h3⟩ := own_typed h.own g hg
    exact ⟨Nat.le_trans hB h1, t, cs, fz, h2, by rw [h3]; decide⟩
  have f := Fr.of_grown hg
  have hq := Qf.of f hS
  refine ⟨h.blk.fr f (own_other h.own h.blk (by decide)), by rw [cat_append]; exact ho, (h.hold.qf hq).append (h4.qf hq), fun j x y hj hx hy => ?_⟩
  obtain ⟨a1, a2, a3, a4, a5, a6, a7, a8, hp2⟩ := h.pr j x y hj hx hy
  exact PairIs.fr ⟨a1, a2, a3, a4, a5, a6, a7, a8, hp2⟩ f hS (own_other h.own hp2.blk (by decide))
set_option maxHeartbeats 1000000 in
set_option maxRecDepth 100000 in
theorem tidy_any (A : Option Addr) (n c K : Nat) (L : List RawR) (l : List RowM) (w : World) (h : SlR w A n c L) (hh : HoldR w L l) (hg : ∀ r ∈ l, Good K r) (hK : Big K) (hn : n < 1100000) :
    Calls Tryz.prog 10 #[.slice A n c] w (TidyOf w (learnAll l)) := by
  have hlen : L.length = n := h.len
  have hll := hh.1
  have Hg := Lib.hid hg
  have HK := Lib.hid hK
  clear hg hK
  go_enter Tryz.func10, Tryz.ntmps10
  go_wp2_with fail
  refine (newP _).mono ?_
  rintro e w1 ⟨mb, rfl, hm, p1⟩
  obtain ⟨W, hWe⟩ : ∃ W, W = w1.alloc (.cells #[.pointer (some ⟨mb, 0, none⟩), .bool true] 97) := ⟨_, rfl⟩
  have pA : Pu w1 W := by rw [hWe]; exact (Pu.refl _).alloc _
  have kT : Blk W w1.heap.size 97 #[.pointer (some ⟨mb, 0, none⟩), .bool true] := by rw [hWe]; exact Blk.new _ _ _
  have hT : TableAt W w.heap.size (fun b => w.heap.size ≤ b) w1.heap.size true mb none [] [] := ⟨kT, p1.size, hm.pu pA, HoldP.nil _ _ _⟩
  have pW : Pu w W := p1.trans pA
  have HWe := Lib.hid hWe
  clear hWe hm p1 pA kT
  go_wp2_with fail
  rw [← HWe.out]
  go_loopw [17] (fun iv wr => ∃ (i : Nat) (r' : Option Nat) (L' : List (Key × Nat)), i ≤ n ∧ iv = .int .i64 (i : Int) ∧ TableAt wr w.heap.size (fun b => w.heap.size ≤ b) w1.heap.size ((l.take i).foldl learnM (true, [])).1 mb r' L' ((l.take i).foldl learnM (true, [])).2 ∧ Qf w.heap.size W wr) (fun iv _ => n - (intOf iv).toNat)
  case atStart => exact ⟨0, none, [], Nat.zero_le _, rfl, by simpa using hT, (Pu.refl W).qf _⟩
  case round =>
    obtain ⟨i, r', L', hi, rfl, hTr, hQ⟩ := hrel
    have hPr : Pu w wr := Qf.pu pW hQ (Nat.le_refl _)
    by_cases hlt : i < n
    · obtain ⟨q, hq⟩ : ∃ q, L[i]? = some q := ⟨_, List.getElem?_eq_getElem (by omega)⟩
      obtain ⟨r, hr, hri⟩ := hh.at_ hq
      obtain ⟨b, off, rfl, hbl, x0, x1, x2, x3⟩ := SlR.at_ (Sl.pu h hPr) hq
      have hgr := Hg.out r (List.mem_of_getElem? hr)
      obtain ⟨hrise, hpg, hpl⟩ := learn_all_good (K := K) (l.take i) (true, []) List.Pairwise.nil (fun e he => by cases he) (fun x hx => Hg.out x (List.mem_of_mem_take hx))
      have hpl2 : ((l.take i).foldl learnM (true, [])).2.length < 1100000 := by
        rw [List.length_take] at hpl
        simp at hpl
        omega
      have hstep := take_learn hr (true, [])
      have pB : Pu wr (wr.alloc (.cells #[.bool q.g, .slice q.A q.n q.c, .pointer q.m, .bool q.eq] 35)) := (Pu.refl wr).alloc _
      have hlearn := learn_any w.heap.size w1.heap.size mb _ r' L' _ q r K _ (hTr.pu pB) (hri.pu (hPr.trans pB)) hgr.fs.nz (hPr.trans pB).size (room_of hgr.fs HK.out hpg hpl2) hgr.rest
      rw [← hstep] at hlearn
      have HL := Lib.hid hlearn
      have HQ := Lib.hid (hQ.trans (pB.qf w.heap.size))
      have hwi : IntKind.i64.wrap ((i : Int) + 1) = (i : Int) + 1 := IntWalk.i64_in _ (by omega)
      clear hlearn hTr hstep hrise hpg hpl hpl2 hr hri hQ hq pB hgr hT
      obtain ⟨qg, qA, qn, qc, qm, qe⟩ := q
      dsimp only at x0 x1 x2 x3 HL HQ
      go_wp2_with fail
      refine HL.out.mono ?_
      rintro e w2 ⟨r2, L2, rfl, hT2, q2⟩
      go_wp2
      go_roundw
      case rel => exact ⟨i + 1, r2, L2, by omega, by go_num, hT2, HQ.out.trans q2⟩
      case measure => simp [intOf]; omega
    · obtain rfl : i = n := by omega
      rw [List.take_of_length_le (by omega)] at hTr
      obtain ⟨_, hpg, hpl⟩ := learn_all_good (K := K) l (true, []) List.Pairwise.nil (fun e he => by cases he) Hg.out
      simp only [List.length_nil, Nat.zero_add] at hpl
      change TableAt wr w.heap.size (fun b => w.heap.size ≤ b) w1.heap.size (learnAll l).1 mb r' L' (learnAll l).2 at hTr
      change ∀ e ∈ (learnAll l).2, PGood K e.2 at hpg
      change (learnAll l).2.length ≤ l.length at hpl
      generalize learnAll l = s at *
      have t0 := hTr.blk.cell 0
      have hpairs := pairsP mb L' wr hTr.mo.mr
      have htb := hTr.ge
      have hps := hTr.hp.1
      have hnd := hTr.hp.2.2
      have Hpr := Lib.hid (fun V (p : Pu wr V) j x y hx hy => (hTr.hp.2.1 j x y hx hy).2.pu p)
      have hkb := hTr.blk
      have hln : L'.length < 1100000 := by omega
      have Hpg := Lib.hid hpg
      clear hTr hQ h hh hT HWe hpg hpl hlen hll Hg
      go_wp2_with fail
      refine hpairs.mono ?_
      rintro e Wp ⟨A4, n4, c4, rfl, ho4, hn4, p4⟩
      have hP : Pu w Wp := hPr.trans p4
      have hLG : L'.length = n4 := lenP (Sl.of_own ho4)
      have hbase := hP.size
      have hR0 : Rest Wp w.heap.size w1.heap.size mb 0 s.1 L' s.2 none 0 0 Wp.heap.size [] [] := ⟨hkb.pu p4, World.ownsRow_nil _ _ _ _, HoldO.nil _ _, fun j x y _ hx hy => Hpr.out _ p4 j x y hx hy⟩
      have hfar : ∀ b off, A4 = some ⟨b, off, none⟩ → ¬ (b ∈ L'.map (·.2) ∨ b = w1.heap.size) := fun b off hA hc => by
        subst hA
        obtain ⟨_, t, cs, fz, h1, h2⟩ := own_typed ho4 b rfl
        rcases hc with hc | hc
        · obtain ⟨x, hx, e⟩ := List.mem_map.1 hc
          obtain ⟨j, hj⟩ := List.getElem?_of_mem hx
          have hjl := (List.getElem?_eq_some_iff.1 hj).1
          obtain ⟨a1, a2, a3, a4, a5, a6, a7, a8, hp2⟩ := hR0.pr j x _ (Nat.zero_le _) hj (List.getElem?_eq_getElem (by rw [← hps]; exact hjl))
          have hb2 := hp2.blk
          rw [e] at hb2
          unfold Blk at hb2
          rw [hb2] at h1
          injection h1 with h1
          injection h1 with _ h1
          rw [← h1] at h2
          exact absurd h2 (by decide)
        · have hb2 := hR0.blk
          rw [← hc] at hb2
          unfold Blk at hb2
          rw [hb2] at h1
          injection h1 with h1
          injection h1 with _ h1
          rw [← h1] at h2
          exact absurd h2 (by decide)
      have Hfar := Lib.hid hfar
      have hSl := Sl.of_own ho4
      clear hkb Hpr hfar ho4 p4 t0 hpairs
      go_wp2_with fail
      go_loopw [7, 31] (fun ov iv wr => ∃ (i : Nat) (Ao : Option Addr) (no co : Nat) (Lo : List RawR), i ≤ n4 ∧ iv = .int .i64 (i : Int) ∧ ov = .slice Ao no co ∧ no ≤ 2 * i ∧ Rest wr w.heap.size w1.heap.size mb i (s.1 && allOk (s.2.take i)) L' s.2 Ao no co Wp.heap.size Lo (allRows (s.2.take i)) ∧ Fr (fun k => k ∈ L'.map (·.2) ∨ k = w1.heap.size) Wp wr) (fun _ iv _ => n4 - (intOf iv).toNat)
      case atStart => exact ⟨0, none, 0, 0, [], Nat.zero_le _, rfl, rfl, Nat.zero_le _, by simpa [allOk, allRows] using hR0, Fr.refl _ _⟩
      case round =>
        obtain ⟨i, Ao, no, co, Lo, hi, rfl, rfl, hno, hR, hF⟩ := hrel
        have hsz := hF.size
        by_cases hlt : i < n4
        · obtain ⟨x, hx⟩ : ∃ x, L'[i]? = some x := ⟨_, List.getElem?_eq_getElem (by omega)⟩
          obtain ⟨y, hy⟩ : ∃ y, s.2[i]? = some y := ⟨_, List.getElem?_eq_getElem (by omega)⟩
          obtain ⟨k, q⟩ := x
          obtain ⟨k2, p⟩ := y
          obtain ⟨bb, off, rfl, hbl, x0, x1⟩ := atP (hSl.fr hF (fun _ => Hfar.out)) hx
          have pB : Pu wr (wr.alloc (.cells #[.string ⟨k.toArray⟩, .pointer (some ⟨q, 0, none⟩)] 102)) := (Pu.refl wr).alloc _
          have hR1 := hR.pu pB
          have hpi := hR1.pr i _ _ (Nat.le_refl _) hx hy
          have hrows := prows_any (p := p) (K := K) _ hpi (by simp; omega) (Hpg.out _ (List.mem_of_getElem? hy)) HK.out
          obtain ⟨a1, a2, a3, a4, a5, a6, a7, a8, hpa⟩ := hpi
          have kq := hpa.blk
          have hbq := hpa.ge
          dsimp only at kq hbq hrows
          have hqm : q ∈ L'.map (·.2) := List.mem_map_of_mem (f := (·.2)) (List.mem_of_getElem? hx)
          have hstep := take_ok hy s.1
          have htr := take_rows hy
          have hF1 := hF.alloc (.cells #[.string ⟨k.toArray⟩, .pointer (some ⟨q, 0, none⟩)] 102)
          generalize (s.1 && allOk (s.2.take i)) = o1 at *
          generalize (rowsM p).2 = o2 at *
          generalize (rowsM p).1 = lp at *
          have HR := Lib.hid hrows
          have HS := Lib.hid (And.intro hstep (And.intro htr (And.intro hqm (And.intro hx hnd))))
          have hwi : IntKind.i64.wrap ((i : Int) + 1) = (i : Int) + 1 := IntWalk.i64_in _ (by omega)
          have htl := hR1.blk.lt
          clear hrows hstep htr hqm hx hy hR0 hpa pB hR
          cases o1 <;> cases o2
          all_goals
            go_wp2_with fail
            refine HR.out.mono ?_
            rintro e w2 ⟨A5, n5, c5, L5, rfl, hn5, hs5, hh5, hB5, hf5⟩
            have hR2 := hR1.turn HS.out.2.2.2.2 HS.out.2.2.2.1 kq hbq hf5
            have hF2 := hF1.step hf5 (fun j e => .inl (.inl (by rw [e]; exact HS.out.2.2.1)))
            have y1 := hR2.blk.cell 1
            have f1 := hR2.blk.frozen 1
            have hw2 := hF2.size
          · have hR3 := hR2.set_ok htb hps false
            have hh6 := hh5.qf (Qf.of (base := w.heap.size) (Fr.one w2 w1.heap.size 1 (.bool false)) (fun g hg => by
              subst hg
              exact ⟨htb, _, _, _, hR2.blk, by decide⟩))
            have hs6 := hs5.fr (Fr.one w2 w1.heap.size 1 (.bool false)) (fun _ b off hA e => by
              have e1 : b = w1.heap.size := e
              have e2 := hB5 b off hA
              omega)
            have hF3 := hF2.step (Fr.one w2 w1.heap.size 1 (.bool false)) (fun j e => .inl (.inr e))
            have hsz3 := hF3.size
            have hown := hR3.own
            have HR3 := Lib.hid (And.intro hR3 (And.intro hh6 (And.intro hF3 hf5)))
            clear hR3 hh6 hF3 hf5 hh5 hR2 hF2 hs5
            go_wp2_with (at_builtin; refine wpList_app eiRow rfl _ _ rfl rfl rfl hown hs6 (cat_one_cell _) (by simp [maxLen]; omega) (by omega) hsz3 ?_)
            intro A6 c6 w4 ho6 hg6
            have hR4 := HR3.out.1.app hbase ho6 hg6 HR3.out.2.1
            have hF4 := HR3.out.2.2.1.grown hg6 (fun k hk => .inr (own_typed hown k hk).1)
            rw [← HS.out.2.1] at hR4
            have HR4 := Lib.hid (And.intro hR4 hF4)
            clear hR4 hF4 ho6 hg6 hown hs6 y1 f1
            go_wp2
            go_roundw
            case rel => exact ⟨i + 1, A6, no + n5, c6, Lo ++ L5, by omega, by go_num, rfl, by omega, by rw [HS.out.1]; exact HR4.out.1, HR4.out.2⟩
            case measure => simp [intOf]; omega
          · have hR3 := hR2.set_ok htb hps false
            have hh6 := hh5.qf (Qf.of (base := w.heap.size) (Fr.one w2 w1.heap.size 1 (.bool false)) (fun g hg => by
              subst hg
              exact ⟨htb, _, _, _, hR2.blk, by decide⟩))
            have hs6 := hs5.fr (Fr.one w2 w1.heap.size 1 (.bool false)) (fun _ b off hA e => by
              have e1 : b = w1.heap.size := e
              have e2 := hB5 b off hA
              omega)
            have hF3 := hF2.step (Fr.one w2 w1.heap.size 1 (.bool false)) (fun j e => .inl (.inr e))
            have hsz3 := hF3.size
            have hown := hR3.own
            have HR3 := Lib.hid (And.intro hR3 (And.intro hh6 (And.intro hF3 hf5)))
            clear hR3 hh6 hF3 hf5 hh5 hR2 hF2 hs5
            go_wp2_with (at_builtin; refine wpList_app eiRow rfl _ _ rfl rfl rfl hown hs6 (cat_one_cell _) (by simp [maxLen]; omega) (by omega) hsz3 ?_)
            intro A6 c6 w4 ho6 hg6
            have hR4 := HR3.out.1.app hbase ho6 hg6 HR3.out.2.1
            have hF4 := HR3.out.2.2.1.grown hg6 (fun k hk => .inr (own_typed hown k hk).1)
            rw [← HS.out.2.1] at hR4
            have HR4 := Lib.hid (And.intro hR4 hF4)
            clear hR4 hF4 ho6 hg6 hown hs6 y1 f1
            go_wp2
            go_roundw
            case rel => exact ⟨i + 1, A6, no + n5, c6, Lo ++ L5, by omega, by go_num, rfl, by omega, by rw [HS.out.1]; exact HR4.out.1, HR4.out.2⟩
            case measure => simp [intOf]; omega
          · have hR3 := hR2.set_ok htb hps false
            have hh6 := hh5.qf (Qf.of (base := w.heap.size) (Fr.one w2 w1.heap.size 1 (.bool false)) (fun g hg => by
              subst hg
              exact ⟨htb, _, _, _, hR2.blk, by decide⟩))
            have hs6 := hs5.fr (Fr.one w2 w1.heap.size 1 (.bool false)) (fun _ b off hA e => by
              have e1 : b = w1.heap.size := e
              have e2 := hB5 b off hA
              omega)
            have hF3 := hF2.step (Fr.one w2 w1.heap.size 1 (.bool false)) (fun j e => .inl (.inr e))
            have hsz3 := hF3.size
            have hown := hR3.own
            have HR3 := Lib.hid (And.intro hR3 (And.intro hh6 (And.intro hF3 hf5)))
            clear hR3 hh6 hF3 hf5 hh5 hR2 hF2 hs5
            go_wp2_with (at_builtin; refine wpList_app eiRow rfl _ _ rfl rfl rfl hown hs6 (cat_one_cell _) (by simp [maxLen]; omega) (by omega) hsz3 ?_)
            intro A6 c6 w4 ho6 hg6
            have hR4 := HR3.out.1.app hbase ho6 hg6 HR3.out.2.1
            have hF4 := HR3.out.2.2.1.grown hg6 (fun k hk => .inr (own_typed hown k hk).1)
            rw [← HS.out.2.1] at hR4
            have HR4 := Lib.hid (And.intro hR4 hF4)
            clear hR4 hF4 ho6 hg6 hown hs6 y1 f1
            go_wp2
            go_roundw
            case rel => exact ⟨i + 1, A6, no + n5, c6, Lo ++ L5, by omega, by go_num, rfl, by omega, by rw [HS.out.1]; exact HR4.out.1, HR4.out.2⟩
            case measure => simp [intOf]; omega
          · have hR3 := hR2.set_ok htb hps true
            have hh6 := hh5.qf (Qf.of (base := w.heap.size) (Fr.one w2 w1.heap.size 1 (.bool true)) (fun g hg => by
              subst hg
              exact ⟨htb, _, _, _, hR2.blk, by decide⟩))
            have hs6 := hs5.fr (Fr.one w2 w1.heap.size 1 (.bool true)) (fun _ b off hA e => by
              have e1 : b = w1.heap.size := e
              have e2 := hB5 b off hA
              omega)
            have hF3 := hF2.step (Fr.one w2 w1.heap.size 1 (.bool true)) (fun j e => .inl (.inr e))
            have hsz3 := hF3.size
            have hown := hR3.own
            have HR3 := Lib.hid (And.intro hR3 (And.intro hh6 (And.intro hF3 hf5)))
            clear hR3 hh6 hF3 hf5 hh5 hR2 hF2 hs5
            go_wp2_with (at_builtin; refine wpList_app eiRow rfl _ _ rfl rfl rfl hown hs6 (cat_one_cell _) (by simp [maxLen]; omega) (by omega) hsz3 ?_)
            intro A6 c6 w4 ho6 hg6
            have hR4 := HR3.out.1.app hbase ho6 hg6 HR3.out.2.1
            have hF4 := HR3.out.2.2.1.grown hg6 (fun k hk => .inr (own_typed hown k hk).1)
            rw [← HS.out.2.1] at hR4
            have HR4 := Lib.hid (And.intro hR4 hF4)
            clear hR4 hF4 ho6 hg6 hown hs6 y1 f1
            go_wp2
            go_roundw
            case rel => exact ⟨i + 1, A6, no + n5, c6, Lo ++ L5, by omega, by go_num, rfl, by omega, by rw [HS.out.1]; exact HR4.out.1, HR4.out.2⟩
            case measure => simp [intOf]; omega
        · obtain rfl : i = n4 := by omega
          rw [List.take_of_length_le (by omega)] at hR
          have y1 := hR.blk.cell 1
          have hge : Pu w wr := hP.step hF (fun j hj => by
            rcases hj with hj | hj
            · obtain ⟨x, hx, e⟩ := List.mem_map.1 hj
              obtain ⟨j2, hj2⟩ := List.getElem?_of_mem hx
              have hjl := (List.getElem?_eq_some_iff.1 hj2).1
              have := (hR0.pr j2 x _ (Nat.zero_le _) hj2 (List.getElem?_eq_getElem (by rw [← hps]; exact hjl))).lt.1
              rw [← e]
              exact this
            · rw [hj]
              exact htb)
          have hsort := sort_any w.heap.size no co Ao Lo _ wr (own_base hR.own hbase) hR.hold (fun r hr => (all_good Hpg.out r hr).sml HK.out) (by omega)
          have HSo := Lib.hid hsort
          have HGe := Lib.hid hge
          obtain ⟨o, ho⟩ : ∃ o, o = (s.1 && allOk s.2) := ⟨_, rfl⟩
          rw [← ho] at y1
          have HO := Lib.hid ho
          clear hsort hge ho hR hR0 hF
          cases o
          · go_wp2
            go_ret2
            refine ⟨none, 0, 0, by rw [← HO.out]; rfl, HGe.out, fun e => ?_, fun _ => ⟨rfl, rfl, rfl⟩⟩
            rw [← HO.out] at e
            cases e
          · go_wp2_with fail
            refine HSo.out.mono ?_
            rintro e w5 ⟨rfl, L6, l6, hperm, hsrt, hs6, hh6, q6⟩
            go_wp2
            go_ret2
            refine ⟨Ao, no, co, by rw [← HO.out]; rfl, Qf.pu HGe.out q6 (Nat.le_refl _), fun _ => ⟨L6, l6, hperm, hsrt, hs6, hh6⟩, fun e => ?_⟩
            rw [← HO.out] at e
            cases e
end
end Go.Proofs.YtckfnbckoclhpaaGreatDoor
