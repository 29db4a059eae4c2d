/- The words for memory that the walks of this seat use: frames, blocks, slices that read as lists. Plain lemmas, no program in sight. -/
import Derived.WalkKit
import Derived.Lib.Hide
import Derived.Deep.Draws
import Derived.Deep.AppendLies
set_option linter.unusedVariables false
namespace Go.Proofs.YtckfnbckoclhpaaDoor
open Go.RowKit

/-- w' is w, but for the blocks in S, and with new blocks. -/
structure Fr (S : Nat → Prop) (w w' : World) : Prop where
  os : w'.os = w.os
  tape : w'.tape = w.tape
  output : w'.output = w.output
  size : w.heap.size ≤ w'.heap.size
  block : ∀ k, k < w.heap.size → ¬ S k → w'.heap[k]? = w.heap[k]?

/-- nothing that was there has turned -/
def Pu (w w' : World) : Prop := Fr (fun _ => False) w w'

theorem Fr.refl (S : Nat → Prop) (w : World) : Fr S w w := ⟨rfl, rfl, rfl, Nat.le_refl _, fun _ _ _ => rfl⟩
theorem Fr.trans {S : Nat → Prop} {a b c : World} (h : Fr S a b) (k : Fr S b c) : Fr S a c :=
  ⟨k.os.trans h.os, k.tape.trans h.tape, k.output.trans h.output, Nat.le_trans h.size k.size,
    fun i hi hs => (k.block i (Nat.lt_of_lt_of_le hi h.size) hs).trans (h.block i hi hs)⟩
theorem Fr.mono {S S' : Nat → Prop} {a b : World} (h : Fr S a b) (hs : ∀ k, k < a.heap.size → S k → S' k) : Fr S' a b :=
  ⟨h.os, h.tape, h.output, h.size, fun i hi hn => h.block i hi (fun x => hn (hs i hi x))⟩
theorem Fr.trans' {S S' S'' : Nat → Prop} {a b c : World} (h : Fr S a b) (k : Fr S' b c) (h1 : ∀ k, k < a.heap.size → S k → S'' k) (h2 : ∀ k, k < a.heap.size → S' k → S'' k) : Fr S'' a c :=
  ⟨k.os.trans h.os, k.tape.trans h.tape, k.output.trans h.output, Nat.le_trans h.size k.size,
    fun i hi hs => (k.block i (Nat.lt_of_lt_of_le hi h.size) (fun x => hs (h2 i hi x))).trans (h.block i hi (fun x => hs (h1 i hi x)))⟩
theorem Fr.pu {S : Nat → Prop} {a b c : World} (h : Fr S a b) (k : Pu b c) : Fr S a c := h.trans' k (fun _ _ h => h) (fun _ _ h => h.elim)
theorem Pu.refl (w : World) : Pu w w := Fr.refl _ w
theorem Pu.trans {a b c : World} (h : Pu a b) (k : Pu b c) : Pu a c := Fr.trans h k
theorem Pu.fr {S : Nat → Prop} {a b : World} (h : Pu a b) : Fr S a b := Fr.mono h (fun _ _ h => h.elim)
theorem Pu.fr' {S : Nat → Prop} {a b c : World} (h : Pu a b) (k : Fr S b c) : Fr S a c := h.fr.trans k
theorem Pu.size {a b : World} (h : Pu a b) : a.heap.size ≤ b.heap.size := Fr.size h
theorem Pu.below {a b : World} (h : Pu a b) : Below a.heap.size a b := ⟨h.os, h.tape, h.output, Fr.size h, fun k hk => Fr.block h k hk (fun x => x)⟩
theorem Pu.of_below {a b : World} (h : Below a.heap.size a b) : Pu a b := ⟨h.os, h.tape, h.output, h.size, fun k hk _ => h.block k hk⟩
theorem Fr.drew {S : Nat → Prop} {a w : World} (h : Fr S a w) : Fr S a w.drew := ⟨h.os, h.tape, h.output, h.size, h.block⟩
theorem Fr.drewN {S : Nat → Prop} {a w : World} (h : Fr S a w) (n : Nat) : Fr S a (w.drewN n) := ⟨h.os, h.tape, h.output, h.size, h.block⟩
theorem Fr.alloc {S : Nat → Prop} {a w : World} (h : Fr S a w) (o : Obj) : Fr S a (w.alloc o) :=
  ⟨h.os, h.tape, h.output, Nat.le_trans h.size (by simp), fun k hk hs => (Below.heap_alloc w o k (Nat.lt_of_lt_of_le hk h.size)).trans (h.block k hk hs)⟩
theorem Fr.setCell {S : Nat → Prop} {a w : World} (h : Fr S a w) {p : Addr} (hp : S p.block ∨ a.heap.size ≤ p.block) (u : Value) : Fr S a (w.setCell p u) :=
  ⟨h.os, h.tape, h.output, by simpa [World.setCell] using h.size, fun k hk hs => (Below.heap_setCell w p u k (by
    rintro rfl
    rcases hp with hp | hp
    · exact hs hp
    · omega)).trans (h.block k hk hs)⟩
theorem Pu.drew {a w : World} (h : Pu a w) : Pu a w.drew := Fr.drew h
theorem Pu.drewN {a w : World} (h : Pu a w) (n : Nat) : Pu a (w.drewN n) := Fr.drewN h n
theorem Pu.alloc {a w : World} (h : Pu a w) (o : Obj) : Pu a (w.alloc o) := Fr.alloc h o
theorem Pu.setCell {a w : World} (h : Pu a w) {p : Addr} (hp : a.heap.size ≤ p.block) (u : Value) : Pu a (w.setCell p u) := Fr.setCell h (.inr hp) u
/-- behind a law that ends in 'grownBy' -/
theorem Fr.grown {S : Nat → Prop} {a w w' : World} {row : Option Nat} (h : Fr S a w) (hg : w.grownBy w' row) (hr : ∀ k, row = some k → S k ∨ a.heap.size ≤ k) : Fr S a w' :=
  ⟨hg.os.trans h.os, hg.tape.trans h.tape, hg.output.trans h.output, Nat.le_trans h.size hg.size,
    fun k hk hs => (hg.block k (Nat.lt_of_lt_of_le hk h.size) (fun e => by
      rcases hr k e.symm with h1 | h1
      · exact hs h1
      · omega)).trans (h.block k hk hs)⟩
theorem Pu.grown {a w w' : World} {row : Option Nat} (h : Pu a w) (hg : w.grownBy w' row) (hr : ∀ k, row = some k → a.heap.size ≤ k) : Pu a w' :=
  Fr.grown h hg (fun k hk => .inr (hr k hk))
/-- a step that writes only blocks that are new since a -/
theorem Pu.step {S : Nat → Prop} {a w w' : World} (h : Pu a w) (k : Fr S w w') (hs : ∀ i, S i → a.heap.size ≤ i) : Pu a w' :=
  Fr.trans' h k (fun _ _ h => h) (fun i hi hS => by have := hs i hS; omega)
theorem Fr.step {S S' : Nat → Prop} {a w w' : World} (h : Fr S a w) (k : Fr S' w w') (hs : ∀ i, S' i → S i ∨ a.heap.size ≤ i) : Fr S a w' :=
  Fr.trans' h k (fun _ _ h => h) (fun i hi hS => by
    rcases hs i hS with h1 | h1
    · exact h1
    · omega)
theorem Fr.cell {S : Nat → Prop} {w w' : World} (h : Fr S w w') {p : Addr} (hp : p.block < w.heap.size) (hs : ¬ S p.block) : w'.cell? p = w.cell? p :=
  World.cell?_of_block (w := w) (h.block p.block hp hs)
theorem Fr.frozen {S : Nat → Prop} {w w' : World} (h : Fr S w w') {p : Addr} (hp : p.block < w.heap.size) (hs : ¬ S p.block) : w'.frozen? p = w.frozen? p :=
  World.frozen?_of_block (w := w) (h.block p.block hp hs)
theorem Pu.cell {w w' : World} (h : Pu w w') {p : Addr} (hp : p.block < w.heap.size) : w'.cell? p = w.cell? p := Fr.cell h hp (fun x => x)
theorem lt_of_cell {w : World} {p : Addr} {v : Value} (h : w.cell? p = some v) : p.block < w.heap.size := World.block_lt_of_cell? w p h
theorem Pu.cellv {w w' : World} (h : Pu w w') {p : Addr} {v : Value} (hc : w.cell? p = some v) : w'.cell? p = some v := (Pu.cell h (lt_of_cell hc)).trans hc
theorem Fr.cellv {S : Nat → Prop} {w w' : World} (h : Fr S w w') {p : Addr} {v : Value} (hc : w.cell? p = some v) (hs : ¬ S p.block) : w'.cell? p = some v := (h.cell (lt_of_cell hc) hs).trans hc
theorem Fr.of_grown {w w' : World} {row : Option Nat} (hg : w.grownBy w' row) : Fr (fun k => row = some k) w w' :=
  ⟨hg.os, hg.tape, hg.output, hg.size, fun k hk hs => hg.block k hk (fun e => hs e.symm)⟩
theorem Fr.to_grown {w w' : World} {g : Nat} (h : Fr (fun k => k = g) w w') : w.grownBy w' (some g) :=
  ⟨h.os, h.tape, h.output, h.size, fun k hk hs => h.block k hk (fun e => hs (by rw [e]))⟩
theorem Pu.grownBy {w w' : World} (h : Pu w w') (row : Option Nat) : w.grownBy w' row := ⟨h.os, h.tape, h.output, Fr.size h, fun k hk _ => Fr.block h k hk (fun x => x)⟩

/-- block g is just the cells cs, of element type t, none frozen -/
def Blk (w : World) (g : Nat) (t : TypeId) (cs : Array Value) : Prop := w.heap[g]? = some (.cells cs t (0, 0))
section
variable {w w' : World} {g : Nat} {t : TypeId} {cs : Array Value}
theorem Blk.lt (h : Blk w g t cs) : g < w.heap.size := by
  rcases Nat.lt_or_ge g w.heap.size with hlt | hge
  · exact hlt
  · unfold Blk at h; rw [Array.getElem?_eq_none hge] at h; cases h
theorem Blk.cell (h : Blk w g t cs) (i : Nat) : w.cell? ⟨g, i, none⟩ = cs[i]? := cell_of_row w g i cs t (0, 0) h
theorem Blk.frozen (h : Blk w g t cs) (i : Nat) : w.frozen? ⟨g, i, none⟩ = false := by
  unfold Blk at h
  simp [World.frozen?, h]
theorem Blk.new (w : World) (t : TypeId) (cs : Array Value) : Blk (w.alloc (.cells cs t)) w.heap.size t cs := heap_alloc_new w _
theorem Blk.at_new (w : World) (t : TypeId) (cs : Array Value) {k : Nat} (h : k = w.heap.size) : Blk (w.alloc (.cells cs t)) k t cs := by
  rw [h]
  exact Blk.new w t cs
theorem Blk.drew (h : Blk w g t cs) : Blk w.drew g t cs := h
theorem Blk.drewN (h : Blk w g t cs) (n : Nat) : Blk (w.drewN n) g t cs := h
theorem Blk.alloc (h : Blk w g t cs) (o : Obj) : Blk (w.alloc o) g t cs := (Below.heap_alloc w o g h.lt).trans h
theorem Blk.set_ (h : Blk w g t cs) (i : Nat) (u : Value) : Blk (w.setCell ⟨g, i, none⟩ u) g t (cs.setIfInBounds i u) := by
  unfold Blk at h ⊢
  simp [World.setCell, Array.getElem?_modify, h]
theorem Blk.far (h : Blk w g t cs) {p : Addr} (hp : g ≠ p.block) (u : Value) : Blk (w.setCell p u) g t cs := (Below.heap_setCell w p u g hp).trans h
theorem Blk.fr {S : Nat → Prop} (h : Blk w g t cs) (hb : Fr S w w') (hg : ¬ S g) : Blk w' g t cs := (hb.block g h.lt hg).trans h
theorem Blk.pu (h : Blk w g t cs) (hb : Pu w w') : Blk w' g t cs := h.fr hb (fun x => x)
theorem Blk.ne_ {g' : Nat} {t' : TypeId} {cs' : Array Value} (h : Blk w g t cs) (h' : Blk w g' t' cs') (hne : t ≠ t') : g ≠ g' := by
  rintro rfl
  unfold Blk at h h'
  rw [h] at h'
  injection h' with h'
  injection h' with _ ht
  exact hne ht
theorem Blk.eq_ {t' : TypeId} {cs' : Array Value} (h : Blk w g t cs) (h' : Blk w g t' cs') : cs = cs' ∧ t = t' := by
  unfold Blk at h h'
  rw [h] at h'
  injection h' with h'
  injection h' with h1 h2
  exact ⟨h1, h2⟩
end

/-- the slice '.slice A n c' reads as the cells xs (k cells an element) -/
def Sl (w : World) (k : Nat) (A : Option Addr) (n c : Nat) (xs : List Value) : Prop :=
  xs.length = n * k ∧ n ≤ c ∧ (0 < n → ∃ b off, A = some ⟨b, off, none⟩ ∧ b < w.heap.size ∧ ∀ j u, xs[j]? = some u → w.cell? ⟨b, off + j, none⟩ = some u)
section
variable {w w' : World} {k n c : Nat} {A : Option Addr} {xs : List Value}
theorem Sl.nil (w : World) (k : Nat) (A : Option Addr) (c : Nat) : Sl w k A 0 c [] := ⟨by simp, Nat.zero_le _, fun h => absurd h (Nat.lt_irrefl 0)⟩
theorem Sl.fr {S : Nat → Prop} (h : Sl w k A n c xs) (hb : Fr S w w') (hs : 0 < n → ∀ b off, A = some ⟨b, off, none⟩ → ¬ S b) : Sl w' k A n c xs :=
  ⟨h.1, h.2.1, fun hn => by
    obtain ⟨b, off, e, hlt, hc⟩ := h.2.2 hn
    exact ⟨b, off, e, Nat.lt_of_lt_of_le hlt hb.size, fun j u hu => hb.cellv (hc j u hu) (hs hn b off e)⟩⟩
theorem Sl.pu (h : Sl w k A n c xs) (hb : Pu w w') : Sl w' k A n c xs := h.fr hb (fun _ _ _ _ x => x)
theorem Sl.at_ (h : Sl w 1 A n c xs) {j : Nat} (hj : j < n) : ∃ b off u, A = some ⟨b, off, none⟩ ∧ b < w.heap.size ∧ xs[j]? = some u ∧ w.cell? ⟨b, off + j, none⟩ = some u := by
  obtain ⟨b, off, e, hlt, hc⟩ := h.2.2 (by omega)
  have hl : j < xs.length := by have := h.1; omega
  exact ⟨b, off, xs[j], e, hlt, List.getElem?_eq_getElem hl, hc j _ (List.getElem?_eq_getElem hl)⟩
theorem Sl.of_own {base : Nat} {e : TypeId} (h : w.ownsRow base e k (.slice A n c) n xs) : Sl w k A n c xs := by
  refine ⟨h.1, ?_, fun hn => ?_⟩
  · rcases h.2 with ⟨hv, h0⟩ | ⟨g, cap, cur, hv, _, _, hnc, _⟩
    · omega
    · injection hv with _ _ hc; omega
  · obtain ⟨g, cap, hv, _, hlt⟩ := h.form hn
    have hA : A = some ⟨g, 0, none⟩ := by injection hv
    subst hA
    refine ⟨g, 0, rfl, hlt, fun j u hu => ?_⟩
    have := h.cells (g := g) rfl j u hu
    rw [Nat.zero_add]
    unfold Addr.add at this
    split at this
    · rename_i h0; subst h0; exact this
    · simpa using this
end

theorem Sl.ne_blk {w : World} {k n c g : Nat} {t : TypeId} {A : Option Addr} {xs : List Value} {cs : Array Value} (h : Sl w k A n c xs) (hk : 0 < k) (hb : Blk w g t cs) (hx : ∀ u ∈ xs, u ∉ cs.toList) :
    0 < n → ∀ b off, A = some ⟨b, off, none⟩ → b ≠ g := by
  intro hn b off hA e
  obtain ⟨b', off', hA', hlt, hc⟩ := h.2.2 hn
  rw [hA] at hA'
  injection hA' with hA'
  injection hA' with e1 e2
  subst e1 e2 e
  have hl : 0 < xs.length := by rw [h.1]; exact Nat.mul_pos hn hk
  have h0 := hc 0 _ (List.getElem?_eq_getElem hl)
  rw [hb.cell] at h0
  refine hx _ (List.getElem_mem hl) ?_
  have := List.mem_of_getElem? (l := cs.toList) (i := off + 0) (a := xs[0]) (by simpa using h0)
  exact this
theorem Sl.new (w : World) (t : TypeId) (cs : Array Value) (k n c : Nat) (h : cs.size = n * k) (hc : n ≤ c) : Sl (w.alloc (.cells cs t)) k (some ⟨w.heap.size, 0, none⟩) n c cs.toList :=
  ⟨by simpa using h, hc, fun _ => ⟨_, 0, rfl, by simp, fun j u hu => by
    rw [Nat.zero_add, World.cell?_alloc_new]
    simpa using hu⟩⟩
theorem Sl.of_blk {w : World} {g : Nat} {t : TypeId} {cs : Array Value} (hb : Blk w g t cs) (k n c : Nat) (h : cs.size = n * k) (hc : n ≤ c) : Sl w k (some ⟨g, 0, none⟩) n c cs.toList :=
  ⟨by simpa using h, hc, fun _ => ⟨_, 0, rfl, hb.lt, fun j u hu => by
    rw [Nat.zero_add, hb.cell]
    simpa using hu⟩⟩
theorem Fr.one (w : World) (b i : Nat) (u : Value) : Fr (fun k => k = b) w (w.setCell ⟨b, i, none⟩ u) := Fr.setCell (S := fun k => k = b) (p := ⟨b, i, none⟩) (Fr.refl _ _) (.inl rfl) _
theorem own_ge {w : World} {base k n c : Nat} {e : TypeId} {A : Option Addr} {xs : List Value} (h : w.ownsRow base e k (.slice A n c) n xs) : ∀ b off, A = some ⟨b, off, none⟩ → base ≤ b := by
  intro b off hA
  subst hA
  exact (h.lt b rfl).1
theorem own_le {w : World} {base k n c : Nat} {e : TypeId} {A : Option Addr} {xs : List Value} (h : w.ownsRow base e k (.slice A n c) n xs) : n ≤ c ∧ c ≤ maxLen := by
  rcases h.2 with ⟨hv, h0⟩ | ⟨g, cap, cur, hv, _, _, hnc, hcm, _⟩
  · injection hv with _ _ hc
    subst hc
    exact ⟨by omega, Nat.zero_le _⟩
  · injection hv with _ _ hc
    subst hc
    exact ⟨hnc, hcm⟩
/-- what a call owns stays owned behind a step that turns other blocks alone -/
theorem own_fr {S : Nat → Prop} {w w' : World} {base k n : Nat} {e : TypeId} {v : Value} {xs : List Value} (h : w.ownsRow base e k v n xs) (hf : Fr S w w') (hs : ∀ g, v.ownBlock = some g → ¬ S g) : w'.ownsRow base e k v n xs := by
  refine ⟨h.1, ?_⟩
  rcases h.2 with hn | ⟨g, cap, cur, rfl, hb, hgg, rest⟩
  · exact .inl hn
  · refine .inr ⟨g, cap, cur, rfl, hb, ?_, rest⟩
    rw [hf.block g (Array.getElem?_eq_some_iff.1 hgg).1 (hs g rfl)]
    exact hgg
theorem own_pu {w w' : World} {base k n : Nat} {e : TypeId} {v : Value} {xs : List Value} (h : w.ownsRow base e k v n xs) (hf : Pu w w') : w'.ownsRow base e k v n xs := own_fr h hf (fun _ _ x => x)
theorem own_base {w : World} {base base' k n : Nat} {e : TypeId} {v : Value} {xs : List Value} (h : w.ownsRow base e k v n xs) (hb : base' ≤ base) : w.ownsRow base' e k v n xs := by
  refine ⟨h.1, ?_⟩
  rcases h.2 with hn | ⟨g, cap, cur, rfl, hg, rest⟩
  · exact .inl hn
  · exact .inr ⟨g, cap, cur, rfl, Nat.le_trans hb hg, rest⟩
/-- what the program's table says of a slice type t over the element type e -/
structure ElemI (P : Program) (t e : TypeId) (z : Value) (size bytes : Nat) : Prop where
  under : P.underlying t = some (.slice e)
  info : (P.info? e).map (fun i => (i.zero, i.size, i.bytes)) = some (some z, size, bytes)
  zs : z.cells.size = size
  pos : 0 < size

theorem own_shape {w : World} {base k n : Nat} {e : TypeId} {v : Value} {xs : List Value} (h : w.ownsRow base e k v n xs) : ∃ A c, v = .slice A n c := by
  rcases h.2 with ⟨rfl, rfl⟩ | ⟨g, cap, cur, rfl, _⟩
  · exact ⟨none, 0, rfl⟩
  · exact ⟨_, cap, rfl⟩

theorem add_zero_ (b j : Nat) : (⟨b, 0, none⟩ : Addr).add j = ⟨b, j, none⟩ := by
  unfold Addr.add
  split
  · rename_i h; rw [h]
  · simp

section
variable {P : Program} {w : World} {ops : Array Oper} {rest : List Oper} {o : Oper} {a : Act} {Q : Exit → Act → World → Prop}

/-- 'out = append(out, x)': out the call's own, x laid in a new block just now -/
theorem wpList_push {t e : TypeId} {z : Value} {size bytes : Nat} (E : ElemI P t e z size bytes) (hgd : o.guard = none) (s x : Operand)
    (ho : o.op = .call { callee := .builtin .append, args := #[s, x], argTypes := #[t, t] })
    {base n c : Nat} {A : Option Addr} {xs : List Value} (us : Array Value) (hus : us.size = size) (h1 : ∀ u ∈ us.toList, u.oneCell' = true)
    (hs : a.eval s = .slice A n c) (hx : a.eval x = .slice (some ⟨w.heap.size, 0, none⟩) 1 1)
    (hown : w.ownsRow base e size (.slice A n c) n xs) (h63 : n + 1 ≤ maxLen) (hbytes : (n + 1) * bytes ≤ 140737488355328) (hbase : base ≤ w.heap.size)
    (h : ∀ A' c' w', w'.ownsRow base e size (.slice A' (n + 1) c') (n + 1) (xs ++ us.toList) → w.grownBy w' (Value.slice A n c).ownBlock → wpList P ops Q rest (a.put o.dst (.slice A' (n + 1) c')) w') :
    wpList P ops Q (o :: rest) a (w.alloc (.cells us e)) := by
  obtain ⟨i, hi, hz, hsz, hby⟩ := info_parts E.info
  refine wpList_append_own _ hgd s x t ho base e i z size bytes E.under hi hz hsz hby E.zs E.pos _ _ _ hs (hown.alloc _) ⟨w.heap.size, 0, none⟩ 1 1 us.toList hx (by simp [hus]) (fun j u hu => ?_) h1 h63 hbytes (by simp; omega) ?_
  · rw [add_zero_, World.cell?_alloc_new]
    simpa using hu
  · intro v' w' ho' hg _
    obtain ⟨A', c', rfl⟩ := own_shape ho'
    refine h A' c' w' ho' ⟨hg.os, hg.tape, hg.output, Nat.le_trans (by simp) hg.size, fun k hk hne => (hg.block k (by simp; omega) hne).trans (Below.heap_alloc w _ k hk)⟩

theorem step_push {t e : TypeId} {z : Value} {size bytes : Nat} (E : ElemI P t e z size bytes) {K : Act → World → Prop} {EE : Prop} (hgd : o.guard = none) (s x : Operand)
    (ho : o.op = .call { callee := .builtin .append, args := #[s, x], argTypes := #[t, t] })
    {base n c : Nat} {A : Option Addr} {xs : List Value} (us : Array Value) (hus : us.size = size) (h1 : ∀ u ∈ us.toList, u.oneCell' = true)
    (hs : a.eval s = .slice A n c) (hx : a.eval x = .slice (some ⟨w.heap.size, 0, none⟩) 1 1)
    (hown : w.ownsRow base e size (.slice A n c) n xs) (h63 : n + 1 ≤ maxLen) (hbytes : (n + 1) * bytes ≤ 140737488355328) (hbase : base ≤ w.heap.size)
    (h : ∀ A' c' w', w'.ownsRow base e size (.slice A' (n + 1) c') (n + 1) (xs ++ us.toList) → w.grownBy w' (Value.slice A n c).ownBlock → K (a.put o.dst (.slice A' (n + 1) c')) w') :
    if Region.wanted o (yielded ops a.tmps) = true then Oper.wp P o a (w.alloc (.cells us e)) K Q else EE := by
  obtain ⟨i, hi, hz, hsz, hby⟩ := info_parts E.info
  have hw : Region.wanted o (yielded ops a.tmps) = true := by simp [Region.wanted, hgd]
  rw [if_pos hw]
  refine wp_append_own _ s x t ho base e i z size bytes E.under hi hz hsz hby E.zs E.pos _ _ _ hs (hown.alloc _) ⟨w.heap.size, 0, none⟩ 1 1 us.toList hx (by simp [hus]) (fun j u hu => ?_) h1 h63 hbytes (by simp; omega) ?_
  · rw [add_zero_, World.cell?_alloc_new]
    simpa using hu
  · intro v' w' ho' hg _
    obtain ⟨A', c', rfl⟩ := own_shape ho'
    refine h A' c' w' ho' ⟨hg.os, hg.tape, hg.output, Nat.le_trans (by simp) hg.size, fun k hk hne => (hg.block k (by simp; omega) hne).trans (Below.heap_alloc w _ k hk)⟩
end

section
variable {P : Program} {w : World} {ops : Array Oper} {rest : List Oper} {o : Oper} {a : Act} {Q : Exit → Act → World → Prop}
theorem run_append_none {t ty e : TypeId} {z : Value} {size bytes : Nat} (E : ElemI P t e z size bytes) {base n c c2 : Nat} {A : Option Addr} {xs : List Value}
    (hown : w.ownsRow base e size (.slice A n c) n xs) : (Builtin.append_ #[t, t] ty #[.slice A n c, .slice none 0 c2]).run P w = .ok (.slice A n c) w := by
  obtain ⟨i, hi, hz, hsz, hby⟩ := info_parts E.info
  rcases hown.2 with ⟨hv, _⟩ | ⟨g, cap, cur, hv, _, _, hnc, _⟩
  · rw [hv]
    simp [Builtin.append_, run_underlying E.under, sizeOf, typeInfo, hi, Builtin.lenOf, Builtin.firstCells]
  · rw [hv]
    simp [Builtin.append_, run_underlying E.under, sizeOf, typeInfo, hi, Builtin.lenOf, Builtin.firstCells, hnc, storeCells]

theorem run_app {t ty e : TypeId} {z : Value} {size bytes : Nat} (E : ElemI P t e z size bytes) {base n c m c2 : Nat} {A B : Option Addr} {xs ys : List Value}
    (hown : w.ownsRow base e size (.slice A n c) n xs) (hr : Sl w size B m c2 ys) (h1 : ∀ u ∈ ys, u.oneCell' = true)
    (h63 : n + m ≤ maxLen) (hbytes : (n + m) * bytes ≤ 140737488355328) (hbase : base ≤ w.heap.size) :
    ∃ A' c' w', (Builtin.append_ #[t, t] ty #[.slice A n c, .slice B m c2]).run P w = .ok (.slice A' (n + m) c') w' ∧ w'.ownsRow base e size (.slice A' (n + m) c') (n + m) (xs ++ ys) ∧ w.grownBy w' (Value.slice A n c).ownBlock := by
  obtain ⟨i, hi, hz, hsz, hby⟩ := info_parts E.info
  rcases Nat.eq_zero_or_pos m with h0 | h0
  · subst h0
    obtain rfl : ys = [] := List.eq_nil_of_length_eq_zero (by simpa using hr.1)
    rcases B with _ | b
    · exact ⟨A, c, w, run_append_none E hown, by simpa using hown, World.grownBy.refl w _⟩
    · obtain ⟨v', w', hrun, h2, h3, _⟩ := run_append_own (P := P) w base t ty e i z size bytes E.under hi hz hsz hby E.zs E.pos _ n xs hown b 0 c2 [] (by simp) (by simp) (by simp) h63 hbytes hbase
      obtain ⟨A', c', rfl⟩ := own_shape h2
      exact ⟨A', c', w', hrun, h2, h3⟩
  · obtain ⟨b, off, rfl, _, hc⟩ := hr.2.2 h0
    obtain ⟨v', w', hrun, h2, h3, _⟩ := run_append_own (P := P) w base t ty e i z size bytes E.under hi hz hsz hby E.zs E.pos _ n xs hown ⟨b, off, none⟩ m c2 ys hr.1 (fun j u hu => by
      have := hc j u hu
      unfold Addr.add
      split
      · rename_i e0; subst e0; exact this
      · exact this) h1 h63 hbytes hbase
    obtain ⟨A', c', rfl⟩ := own_shape h2
    exact ⟨A', c', w', hrun, h2, h3⟩

/-- 'out = append(out, ys...)': out the call's own, ys whatever slice -/
theorem wpList_app {t e : TypeId} {z : Value} {size bytes : Nat} (E : ElemI P t e z size bytes) (hgd : o.guard = none) (s x : Operand)
    (ho : o.op = .call { callee := .builtin .append, args := #[s, x], argTypes := #[t, t] })
    {base n c m c2 : Nat} {A B : Option Addr} {xs ys : List Value} (hs : a.eval s = .slice A n c) (hx : a.eval x = .slice B m c2)
    (hown : w.ownsRow base e size (.slice A n c) n xs) (hr : Sl w size B m c2 ys) (h1 : ∀ u ∈ ys, u.oneCell' = true)
    (h63 : n + m ≤ maxLen) (hbytes : (n + m) * bytes ≤ 140737488355328) (hbase : base ≤ w.heap.size)
    (h : ∀ A' c' w', w'.ownsRow base e size (.slice A' (n + m) c') (n + m) (xs ++ ys) → w.grownBy w' (Value.slice A n c).ownBlock → wpList P ops Q rest (a.put o.dst (.slice A' (n + m) c')) w') :
    wpList P ops Q (o :: rest) a w := by
  refine wpList_plain hgd fun K hK => ?_
  obtain ⟨A', c', w', hrun, h2, h3⟩ := run_app (ty := o.type) E hown hr h1 h63 hbytes hbase
  unfold Oper.wp execOp
  simp only [ho, resolve, invoke, builtin, Sem.run_bind, Sem.run_pure, Result.andThen_ok, List.map_toArray, List.map_cons, List.map_nil, hs, hx, hrun]
  exact hK _ _ (h A' c' w' h2 h3)
end

/-- behind a push: every block but the row's own stays -/
theorem pu_push {a w w' : World} {base k n c : Nat} {e : TypeId} {A : Option Addr} {xs : List Value} (h : Pu a w) (hown : w.ownsRow base e k (.slice A n c) n xs) (hb : a.heap.size ≤ base) (hg : w.grownBy w' (Value.slice A n c).ownBlock) : Pu a w' :=
  h.grown hg (fun j hj => Nat.le_trans hb (hown.lt j hj).1)
theorem blk_push {w w' : World} {base k n c g : Nat} {e t : TypeId} {A : Option Addr} {xs : List Value} {cs : Array Value} (h : Blk w g t cs) (hown : w.ownsRow base e k (.slice A n c) n xs) (hb : g < base) (hg : w.grownBy w' (Value.slice A n c).ownBlock) : Blk w' g t cs :=
  (hg.block g h.lt (fun e => by have := (hown.lt g e.symm).1; omega)).trans h
end Go.Proofs.YtckfnbckoclhpaaDoor
