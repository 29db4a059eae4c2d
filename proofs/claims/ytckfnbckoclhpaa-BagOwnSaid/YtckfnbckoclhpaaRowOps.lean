/- copy and clear at a row that is known whole, whatever the size of an element. -/
import Derived.Test.YtckfnbckoclhpaaBase
import Derived.Laws.CopyRow
set_option linter.unusedVariables false
namespace Go.Proofs.Ytckfnbckoclhpaa
open Go.RowKit

/-- a list with a stretch written over -/
def over (l : List Value) (o : Nat) (cs : List Value) : List Value := l.take o ++ cs ++ l.drop (o + cs.length)
theorem over_len (l : List Value) (o : Nat) (cs : List Value) (h : o + cs.length ≤ l.length) : (over l o cs).length = l.length := by
  simp [over]
  omega
theorem over_get (l : List Value) (o : Nat) (cs : List Value) (h : o + cs.length ≤ l.length) (j : Nat) :
    (over l o cs)[j]? = if o ≤ j ∧ j < o + cs.length then cs[j - o]? else l[j]? := by
  unfold over
  by_cases h1 : j < o
  · rw [List.getElem?_append_left (by simp; omega), List.getElem?_append_left (by simp; omega), List.getElem?_take, if_pos h1, if_neg (by omega)]
  · by_cases h2 : j < o + cs.length
    · rw [List.getElem?_append_left (by simp; omega), List.getElem?_append_right (by simp; omega), if_pos (by omega)]
      simp
      congr 1
      omega
    · rw [List.getElem?_append_right (by simp; omega), if_neg (by omega), List.getElem?_drop]
      simp
      congr 1
      omega

theorem setRow_blk {w : World} {g : Nat} {t : TypeId} {cur : Array Value} (h : Blk w g t cur) (ds : Array Value) : Blk (w.setRow g ds) g t ds := setRow_heap w g cur ds t (0, 0) h
theorem setRow_fr (w : World) (g : Nat) (ds : Array Value) : Fr (fun k => k = g) w (w.setRow g ds) := by
  refine ⟨rfl, rfl, rfl, by simp [World.setRow], fun k _ hk => ?_⟩
  simp only [World.setRow, Array.getElem?_modify]
  rw [if_neg (fun e => hk e.symm)]

section
variable {P : Program} {w : World} {ops : Array Oper} {rest : List Oper} {o : Oper} {a : Act} {Q : Exit → Act → World → Prop}

theorem run_copy_blk (w : World) (dT sT ty elem : TypeId) (k g off dLen dCap : Nat) (s : Addr) (sLen sCap : Nat) (cur : Array Value) (t : TypeId) (cs : List Value)
    (hu : P.underlying dT = some (.slice elem)) (hs : (P.info? elem).map (·.size) = some k) (hg : Blk w g t cur) (hn : cs.length = Nat.min sLen dLen * k)
    (hsrc : ∀ j v, cs[j]? = some v → w.cell? (s.add j) = some v) (hfit : off + cs.length ≤ cur.size) (h1 : ∀ v ∈ cs, v.oneCell' = true) :
    (Builtin.copy_ #[dT, sT] ty #[.slice (some ⟨g, off, none⟩) dLen dCap, .slice (some s) sLen sCap]).run P w =
      .ok (goInt (Nat.min sLen dLen)) (w.setRow g (over cur.toList off cs).toArray) := by
  have hl := run_loadCells_list (P := P) w s cs hsrc
  have hst := run_storeCells_at P g off t cs 0 cur w hg (by simpa using hfit) h1
  cases hq : P.info? elem with
  | none => simp [hq] at hs
  | some i =>
    have hi : i.size = k := by simpa [hq] using hs
    simp only [Nat.add_zero] at hst
    simp [Builtin.copy_, run_underlying hu, Builtin.lenOf, Builtin.firstCells, sizeOf, typeInfo, hq, hi, ← hn, hl, hst, over]

theorem zero_one {z : Value} (h1 : ∀ u ∈ z.cells.toList, u.oneCell' = true) (n : Nat) : ∀ u ∈ (Builtin.zeroCells z.cells n).toList, u.oneCell' = true := by
  intro u hu
  simp only [Builtin.zeroCells, Array.toList_map, List.mem_map] at hu
  obtain ⟨i, hi, rfl⟩ := hu
  simp at hi
  have h0 : 0 < z.cells.size := by
    rcases Nat.eq_zero_or_pos z.cells.size with h | h
    · rw [h] at hi
      omega
    · exact h
  rw [getElem!_pos z.cells _ (Nat.mod_lt _ h0)]
  exact h1 _ (by simp)

theorem run_clear_blk (w : World) (t e ty : TypeId) (z : Value) (k : Nat) (ht : P.underlying t = some (.slice e)) (hz : ∀ w, (zeroValue e).run P w = .ok z w) (hk : z.cells.size = k) (h1 : ∀ u ∈ z.cells.toList, u.oneCell' = true)
    (g off n c : Nat) (hn : 0 < n) (cur : Array Value) (tt : TypeId) (hg : Blk w g tt cur) (hfit : off + n * k ≤ cur.size) :
    (Builtin.clear_ #[t] ty #[.slice (some ⟨g, off, none⟩) n c]).run P w = .ok (.tuple #[]) (w.setRow g (over cur.toList off (Builtin.zeroCells z.cells n).toList).toArray) := by
  have hlen : (Builtin.zeroCells z.cells n).toList.length = n * k := by simp [Builtin.zeroCells, hk, Nat.mul_comm]
  have hst := run_storeCells_at P g off tt (Builtin.zeroCells z.cells n).toList 0 cur w hg (by rw [hlen]; simpa using hfit) (zero_one h1 n)
  obtain ⟨m, rfl⟩ : ∃ m, n = m + 1 := ⟨n - 1, by omega⟩
  simp only [Nat.add_zero] at hst
  simp [Builtin.clear_, run_underlying ht, hz, hst, over]
end

section
variable {P : Program} {w : World} {ops : Array Oper} {rest : List Oper} {o : Oper} {a : Act} {Q : Exit → Act → World → Prop}
/-- a builtin whose run is known -/
theorem run_builtin {bi : Builtin} {S : Array TypeId → TypeId → Array Value → Sem Value} (hb : ∀ ats ty cs args, builtin bi ats ty cs args = (S ats ty args >>= fun v => pure (.value v))) {ats : Array TypeId} {ty : TypeId} (cs : Array Bool) {args : Array Value} {v' : Value} {w' : World}
    (hr : (S ats ty args).run P w = .ok v' w') : (builtin bi ats ty cs args).run P w = .ok (.value v') w' := by
  rw [hb]
  simp [hr]
theorem wp_builtin2 {bi : Builtin} {S : Array TypeId → TypeId → Array Value → Sem Value} (hb : ∀ ats ty cs args, builtin bi ats ty cs args = (S ats ty args >>= fun v => pure (.value v))) {K : Act → World → Prop} (d s : Operand) (ats : Array TypeId)
    (ho : o.op = .call { callee := .builtin bi, args := #[d, s], argTypes := ats }) (v u : Value) (hd : a.eval d = v) (hs : a.eval s = u) {v' : Value} {w' : World}
    (hr : (S ats o.type #[v, u]).run P w = .ok v' w') (h : K (a.put o.dst v') w') : o.wp P a w K Q := by
  have hr2 := fun cs => run_builtin hb cs hr
  unfold Oper.wp execOp
  simp only [ho, resolve, invoke, Sem.run_bind, Sem.run_pure, Result.andThen_ok, List.map_toArray, List.map_cons, List.map_nil, hd, hs, hr2]
  exact h
theorem wpList_builtin2 {bi : Builtin} {S : Array TypeId → TypeId → Array Value → Sem Value} (hb : ∀ ats ty cs args, builtin bi ats ty cs args = (S ats ty args >>= fun v => pure (.value v))) (hgd : o.guard = none) (d s : Operand) (ats : Array TypeId)
    (ho : o.op = .call { callee := .builtin bi, args := #[d, s], argTypes := ats }) (v u : Value) (hd : a.eval d = v) (hs : a.eval s = u) {v' : Value} {w' : World}
    (hr : (S ats o.type #[v, u]).run P w = .ok v' w') (h : wpList P ops Q rest (a.put o.dst v') w') : wpList P ops Q (o :: rest) a w :=
  wpList_plain hgd fun _ hK => wp_builtin2 hb d s ats ho v u hd hs hr (hK _ _ h)
theorem step_builtin2 {bi : Builtin} {S : Array TypeId → TypeId → Array Value → Sem Value} (hb : ∀ ats ty cs args, builtin bi ats ty cs args = (S ats ty args >>= fun v => pure (.value v))) {K : Act → World → Prop} {E : Prop} (hgd : o.guard = none) (d s : Operand) (ats : Array TypeId)
    (ho : o.op = .call { callee := .builtin bi, args := #[d, s], argTypes := ats }) (v u : Value) (hd : a.eval d = v) (hs : a.eval s = u) {v' : Value} {w' : World}
    (hr : (S ats o.type #[v, u]).run P w = .ok v' w') (hK : K (a.put o.dst v') w') : if Region.wanted o (yielded ops a.tmps) = true then Oper.wp P o a w K Q else E := by
  have hw : Region.wanted o (yielded ops a.tmps) = true := by simp [Region.wanted, hgd]
  rw [if_pos hw]
  exact wp_builtin2 hb d s ats ho v u hd hs hr hK
theorem wpList_builtin1 {bi : Builtin} {S : Array TypeId → TypeId → Array Value → Sem Value} (hb : ∀ ats ty cs args, builtin bi ats ty cs args = (S ats ty args >>= fun v => pure (.value v))) (hgd : o.guard = none) (d : Operand) (ats : Array TypeId)
    (ho : o.op = .call { callee := .builtin bi, args := #[d], argTypes := ats }) (v : Value) (hd : a.eval d = v) {v' : Value} {w' : World}
    (hr : (S ats o.type #[v]).run P w = .ok v' w') (h : wpList P ops Q rest (a.put o.dst v') w') : wpList P ops Q (o :: rest) a w := by
  refine wpList_plain hgd fun K hK => ?_
  have hr2 := fun cs => run_builtin hb cs hr
  unfold Oper.wp execOp
  simp only [ho, resolve, invoke, Sem.run_bind, Sem.run_pure, Result.andThen_ok, List.map_toArray, List.map_cons, List.map_nil, hd, hr2]
  exact hK _ _ h

/-- 'out = append(out, x)', x's block told by its number -/
theorem wpList_pushAt {t e : TypeId} {z : Value} {size bytes : Nat} (E : ElemI P t e z size bytes) (hgd : o.guard = none) (s x : Operand)
    (ho : o.op = .call { callee := .builtin .append, args := #[s, x], argTypes := #[t, t] })
    {base n c q : Nat} {A : Option Addr} {xs : List Value} (us : Array Value) (hus : us.size = size) (h1 : ∀ u ∈ us.toList, u.oneCell' = true)
    (hs : a.eval s = .slice A n c) (hx : a.eval x = .slice (some ⟨q, 0, none⟩) 1 1) (hq : w.heap.size = q)
    (hown : w.ownsRow base e size (.slice A n c) n xs) (h63 : n + 1 ≤ maxLen) (hbytes : (n + 1) * bytes ≤ 140737488355328) (hbase : base ≤ w.heap.size)
    (h : ∀ A' c' w', w'.ownsRow base e size (.slice A' (n + 1) c') (n + 1) (xs ++ us.toList) → w.grownBy w' (Value.slice A n c).ownBlock → wpList P ops Q rest (a.put o.dst (.slice A' (n + 1) c')) w') :
    wpList P ops Q (o :: rest) a (w.alloc (.cells us e)) := wpList_push E hgd s x ho us hus h1 hs (by rw [hq]; exact hx) hown h63 hbytes hbase h
end

section
variable {P : Program} {w : World} {ops : Array Oper} {rest : List Oper} {o : Oper} {a : Act} {Q : Exit → Act → World → Prop}
/-- 'out = append(out, ys...)' as one step of a region that draws -/
theorem step_app {t e : TypeId} {z : Value} {size bytes : Nat} (E : ElemI P t e z size bytes) {K : Act → World → Prop} {EE : Prop} (hgd : o.guard = none) (s x : Operand)
    (ho : o.op = .call { callee := .builtin .append, args := #[s, x], argTypes := #[t, t] })
    {base n c m c2 : Nat} {A B : Option Addr} {xs ys : List Value} (hs : a.eval s = .slice A n c) (hx : a.eval x = .slice B m c2)
    (hown : w.ownsRow base e size (.slice A n c) n xs) (hr : Sl w size B m c2 ys) (h1 : ∀ u ∈ ys, u.oneCell' = true)
    (h63 : n + m ≤ maxLen) (hbytes : (n + m) * bytes ≤ 140737488355328) (hbase : base ≤ w.heap.size)
    (h : ∀ A' c' w', w'.ownsRow base e size (.slice A' (n + m) c') (n + m) (xs ++ ys) → w.grownBy w' (Value.slice A n c).ownBlock → K (a.put o.dst (.slice A' (n + m) c')) w') :
    if Region.wanted o (yielded ops a.tmps) = true then Oper.wp P o a w K Q else EE := by
  obtain ⟨A', c', w', hrun, h2, h3⟩ := run_app (ty := o.type) E hown hr h1 h63 hbytes hbase
  exact step_builtin2 (S := Builtin.append_) (fun _ _ _ _ => rfl) hgd s x #[t, t] ho _ _ hs hx hrun (h A' c' w' h2 h3)
end

/-- an own row, when it has a block -/
theorem own_blk {w : World} {base k n c : Nat} {e : TypeId} {A : Option Addr} {xs : List Value} (h : w.ownsRow base e k (.slice A n c) n xs) (hn : 0 < n) :
    ∃ g cur, A = some ⟨g, 0, none⟩ ∧ base ≤ g ∧ Blk w g e cur ∧ n ≤ c ∧ c ≤ maxLen ∧ cur.size = c * k ∧ cur.toList.take (n * k) = xs := by
  rcases h.2 with ⟨_, h0⟩ | ⟨g, cap, cur, hv, hb, hg, h1, h2, h3, h4⟩
  · omega
  · injection hv with e1 _ e3
    subst e1 e3
    exact ⟨g, cur, rfl, hb, hg, h1, h2, h3, h4⟩
/-- .. and back -/
theorem own_of_blk {w : World} {base k n c g : Nat} {e : TypeId} {xs : List Value} {cur : Array Value} (hb : base ≤ g) (hg : Blk w g e cur) (hn : n ≤ c) (hc : c ≤ maxLen) (hs : cur.size = c * k) (hx : xs.length = n * k)
    (h : ∀ j, j < n * k → cur[j]? = xs[j]?) : w.ownsRow base e k (.slice (some ⟨g, 0, none⟩) n c) n xs := by
  refine ⟨hx, .inr ⟨g, c, cur, rfl, hb, hg, hn, hc, hs, ?_⟩⟩
  apply List.ext_getElem?
  intro j
  rw [List.getElem?_take]
  split
  · rename_i hj
    rw [← h j hj]
    simp
  · rename_i hj
    rw [List.getElem?_eq_none (by omega)]
end Go.Proofs.Ytckfnbckoclhpaa
