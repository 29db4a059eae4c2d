/- The words for memory that the walks of this seat use: frames, blocks, slices that read as lists. Plain lemmas, no program in sight. copy and clear at a row that is known whole, whatever the size of an element. Maps by texts: the pairs' cells; lists of pairs by rising keys; putting and dropping. Maps by texts: a key behind all others; looking a key up. Plain lemmas. Numbers as lists: words to the base 2^32 and decimal digits, the lowest first. Plain lists, no program in sight. zed: digits as bytes; a row of bytes turned about. Plain lemmas, no program in sight. zed: the sums behind Mul, scale, shift, back, take, give, guess. Plain numbers and lists, no program in sight. Index into a string whose bytes are a list. No program in sight. zed: what a text says as a number. Plain lists of bytes, no program in sight. -/
import Derived.WalkKit
import Derived.Lib.Hide
import Derived.Deep.Draws
import Derived.Deep.AppendLies
import Derived.Laws.CopyRow
import Derived.Lib.ConvBytes
import Derived.Lib.TrimByte
import Derived.Laws.IdiomStrings
import Derived.Sort.Row
import Derived.Laws.Entries
import Derived.Lib.SlTrimSet
import Derived.Lib.Strings
namespace Go.Proofs.YtckfnbckoclhpaaGreatDoor
section
set_option linter.unusedVariables false
open Go.RowKit
structure Fr (S : Nat → Prop) (w w' : World) : Prop where
  os : w'.os = w.os
  tape : w'.tape = w.tape
  output : w'.output = w.output
  size : w.heap.size ≤ w'.heap.size
  block : ∀ k, k < w.heap.size → ¬ S k → w'.heap[k]? = w.heap[k]?
def Pu (w w' : World) : Prop := Fr (fun _ => False) w w'
theorem Fr.refl (S : Nat → Prop) (w : World) : Fr S w w := ⟨rfl, rfl, rfl, Nat.le_refl _, fun _ _ _ => rfl⟩
theorem Fr.trans {S : Nat → Prop} {a b c : World} (h : Fr S a b) (k : Fr S b c) : Fr S a c :=
  ⟨k.os.trans h.os, k.tape.trans h.tape, k.output.trans h.output, Nat.le_trans h.size k.size,
    fun i hi hs => (k.block i (Nat.lt_of_lt_of_le hi h.size) hs).trans (h.block i hi hs)⟩
theorem Fr.mono {S S' : Nat → Prop} {a b : World} (h : Fr S a b) (hs : ∀ k, k < a.heap.size → S k → S' k) : Fr S' a b :=
  ⟨h.os, h.tape, h.output, h.size, fun i hi hn => h.block i hi (fun x => hn (hs i hi x))⟩
theorem Fr.trans' {S S' S'' : Nat → Prop} {a b c : World} (h : Fr S a b) (k : Fr S' b c) (h1 : ∀ k, k < a.heap.size → S k → S'' k) (h2 : ∀ k, k < a.heap.size → S' k → S'' k) : Fr S'' a c :=
  ⟨k.os.trans h.os, k.tape.trans h.tape, k.output.trans h.output, Nat.le_trans h.size k.size,
    fun i hi hs => (k.block i (Nat.lt_of_lt_of_le hi h.size) (fun x => hs (h2 i hi x))).trans (h.block i hi (fun x => hs (h1 i hi x)))⟩
theorem Fr.pu {S : Nat → Prop} {a b c : World} (h : Fr S a b) (k : Pu b c) : Fr S a c := h.trans' k (fun _ _ h => h) (fun _ _ h => h.elim)
theorem Pu.refl (w : World) : Pu w w := Fr.refl _ w
theorem Pu.trans {a b c : World} (h : Pu a b) (k : Pu b c) : Pu a c := Fr.trans h k
theorem Pu.fr {S : Nat → Prop} {a b : World} (h : Pu a b) : Fr S a b := Fr.mono h (fun _ _ h => h.elim)
theorem Pu.fr' {S : Nat → Prop} {a b c : World} (h : Pu a b) (k : Fr S b c) : Fr S a c := h.fr.trans k
theorem Pu.size {a b : World} (h : Pu a b) : a.heap.size ≤ b.heap.size := Fr.size h
theorem Pu.below {a b : World} (h : Pu a b) : Below a.heap.size a b := ⟨h.os, h.tape, h.output, Fr.size h, fun k hk => Fr.block h k hk (fun x => x)⟩
theorem Pu.of_below {a b : World} (h : Below a.heap.size a b) : Pu a b := ⟨h.os, h.tape, h.output, h.size, fun k hk _ => h.block k hk⟩
theorem Fr.drew {S : Nat → Prop} {a w : World} (h : Fr S a w) : Fr S a w.drew := ⟨h.os, h.tape, h.output, h.size, h.block⟩
theorem Fr.drewN {S : Nat → Prop} {a w : World} (h : Fr S a w) (n : Nat) : Fr S a (w.drewN n) := ⟨h.os, h.tape, h.output, h.size, h.block⟩
theorem Fr.alloc {S : Nat → Prop} {a w : World} (h : Fr S a w) (o : Obj) : Fr S a (w.alloc o) :=
  ⟨h.os, h.tape, h.output, Nat.le_trans h.size (by simp), fun k hk hs => (Below.heap_alloc w o k (Nat.lt_of_lt_of_le hk h.size)).trans (h.block k hk hs)⟩
theorem Fr.setCell {S : Nat → Prop} {a w : World} (h : Fr S a w) {p : Addr} (hp : S p.block ∨ a.heap.size ≤ p.block) (u : Value) : Fr S a (w.setCell p u) :=
  ⟨h.os, h.tape, h.output, by simpa [World.setCell] using h.size, fun k hk hs => (Below.heap_setCell w p u k (by
    rintro rfl
    rcases hp with hp | hp
    · exact hs hp
    · omega)).trans (h.block k hk hs)⟩
theorem Pu.drew {a w : World} (h : Pu a w) : Pu a w.drew := Fr.drew h
theorem Pu.drewN {a w : World} (h : Pu a w) (n : Nat) : Pu a (w.drewN n) := Fr.drewN h n
theorem Pu.alloc {a w : World} (h : Pu a w) (o : Obj) : Pu a (w.alloc o) := Fr.alloc h o
theorem Pu.setCell {a w : World} (h : Pu a w) {p : Addr} (hp : a.heap.size ≤ p.block) (u : Value) : Pu a (w.setCell p u) := Fr.setCell h (.inr hp) u
theorem Fr.grown {S : Nat → Prop} {a w w' : World} {row : Option Nat} (h : Fr S a w) (hg : w.grownBy w' row) (hr : ∀ k, row = some k → S k ∨ a.heap.size ≤ k) : Fr S a w' :=
  ⟨hg.os.trans h.os, hg.tape.trans h.tape, hg.output.trans h.output, Nat.le_trans h.size hg.size,
    fun k hk hs => (hg.block k (Nat.lt_of_lt_of_le hk h.size) (fun e => by
      rcases hr k e.symm with h1 | h1
      · exact hs h1
      · omega)).trans (h.block k hk hs)⟩
theorem Pu.grown {a w w' : World} {row : Option Nat} (h : Pu a w) (hg : w.grownBy w' row) (hr : ∀ k, row = some k → a.heap.size ≤ k) : Pu a w' :=
  Fr.grown h hg (fun k hk => .inr (hr k hk))
theorem Pu.step {S : Nat → Prop} {a w w' : World} (h : Pu a w) (k : Fr S w w') (hs : ∀ i, S i → a.heap.size ≤ i) : Pu a w' :=
  Fr.trans' h k (fun _ _ h => h) (fun i hi hS => by have := hs i hS; omega)
theorem Fr.step {S S' : Nat → Prop} {a w w' : World} (h : Fr S a w) (k : Fr S' w w') (hs : ∀ i, S' i → S i ∨ a.heap.size ≤ i) : Fr S a w' :=
  Fr.trans' h k (fun _ _ h => h) (fun i hi hS => by
    rcases hs i hS with h1 | h1
    · exact h1
    · omega)
theorem Fr.cell {S : Nat → Prop} {w w' : World} (h : Fr S w w') {p : Addr} (hp : p.block < w.heap.size) (hs : ¬ S p.block) : w'.cell? p = w.cell? p :=
  World.cell?_of_block (w := w) (h.block p.block hp hs)
theorem Fr.frozen {S : Nat → Prop} {w w' : World} (h : Fr S w w') {p : Addr} (hp : p.block < w.heap.size) (hs : ¬ S p.block) : w'.frozen? p = w.frozen? p :=
  World.frozen?_of_block (w := w) (h.block p.block hp hs)
theorem Pu.cell {w w' : World} (h : Pu w w') {p : Addr} (hp : p.block < w.heap.size) : w'.cell? p = w.cell? p := Fr.cell h hp (fun x => x)
theorem lt_of_cell {w : World} {p : Addr} {v : Value} (h : w.cell? p = some v) : p.block < w.heap.size := World.block_lt_of_cell? w p h
theorem Pu.cellv {w w' : World} (h : Pu w w') {p : Addr} {v : Value} (hc : w.cell? p = some v) : w'.cell? p = some v := (Pu.cell h (lt_of_cell hc)).trans hc
theorem Fr.cellv {S : Nat → Prop} {w w' : World} (h : Fr S w w') {p : Addr} {v : Value} (hc : w.cell? p = some v) (hs : ¬ S p.block) : w'.cell? p = some v := (h.cell (lt_of_cell hc) hs).trans hc
theorem Fr.of_grown {w w' : World} {row : Option Nat} (hg : w.grownBy w' row) : Fr (fun k => row = some k) w w' :=
  ⟨hg.os, hg.tape, hg.output, hg.size, fun k hk hs => hg.block k hk (fun e => hs e.symm)⟩
theorem Fr.to_grown {w w' : World} {g : Nat} (h : Fr (fun k => k = g) w w') : w.grownBy w' (some g) :=
  ⟨h.os, h.tape, h.output, h.size, fun k hk hs => h.block k hk (fun e => hs (by rw [e]))⟩
theorem Pu.grownBy {w w' : World} (h : Pu w w') (row : Option Nat) : w.grownBy w' row := ⟨h.os, h.tape, h.output, Fr.size h, fun k hk _ => Fr.block h k hk (fun x => x)⟩
def Blk (w : World) (g : Nat) (t : TypeId) (cs : Array Value) : Prop := w.heap[g]? = some (.cells cs t (0, 0))
section
variable {w w' : World} {g : Nat} {t : TypeId} {cs : Array Value}
theorem Blk.lt (h : Blk w g t cs) : g < w.heap.size := by
  rcases Nat.lt_or_ge g w.heap.size with hlt | hge
  · exact hlt
  · unfold Blk at h; rw [Array.getElem?_eq_none hge] at h; cases h
theorem Blk.cell (h : Blk w g t cs) (i : Nat) : w.cell? ⟨g, i, none⟩ = cs[i]? := cell_of_row w g i cs t (0, 0) h
theorem Blk.frozen (h : Blk w g t cs) (i : Nat) : w.frozen? ⟨g, i, none⟩ = false := by
  unfold Blk at h
  simp [World.frozen?, h]
theorem Blk.new (w : World) (t : TypeId) (cs : Array Value) : Blk (w.alloc (.cells cs t)) w.heap.size t cs := heap_alloc_new w _
theorem Blk.at_new (w : World) (t : TypeId) (cs : Array Value) {k : Nat} (h : k = w.heap.size) : Blk (w.alloc (.cells cs t)) k t cs := by
  rw [h]
  exact Blk.new w t cs
theorem Blk.drew (h : Blk w g t cs) : Blk w.drew g t cs := h
theorem Blk.drewN (h : Blk w g t cs) (n : Nat) : Blk (w.drewN n) g t cs := h
theorem Blk.alloc (h : Blk w g t cs) (o : Obj) : Blk (w.alloc o) g t cs := (Below.heap_alloc w o g h.lt).trans h
theorem Blk.set_ (h : Blk w g t cs) (i : Nat) (u : Value) : Blk (w.setCell ⟨g, i, none⟩ u) g t (cs.setIfInBounds i u) := by
  unfold Blk at h ⊢
  simp [World.setCell, Array.getElem?_modify, h]
theorem Blk.far (h : Blk w g t cs) {p : Addr} (hp : g ≠ p.block) (u : Value) : Blk (w.setCell p u) g t cs := (Below.heap_setCell w p u g hp).trans h
theorem Blk.fr {S : Nat → Prop} (h : Blk w g t cs) (hb : Fr S w w') (hg : ¬ S g) : Blk w' g t cs := (hb.block g h.lt hg).trans h
theorem Blk.pu (h : Blk w g t cs) (hb : Pu w w') : Blk w' g t cs := h.fr hb (fun x => x)
theorem Blk.ne_ {g' : Nat} {t' : TypeId} {cs' : Array Value} (h : Blk w g t cs) (h' : Blk w g' t' cs') (hne : t ≠ t') : g ≠ g' := by
  rintro rfl
  unfold Blk at h h'
  rw [h] at h'
  injection h' with h'
  injection h' with _ ht
  exact hne ht
theorem Blk.eq_ {t' : TypeId} {cs' : Array Value} (h : Blk w g t cs) (h' : Blk w g t' cs') : cs = cs' ∧ t = t' := by
  unfold Blk at h h'
  rw [h] at h'
  injection h' with h'
  injection h' with h1 h2
  exact ⟨h1, h2⟩
end
def Sl (w : World) (k : Nat) (A : Option Addr) (n c : Nat) (xs : List Value) : Prop :=
  xs.length = n * k ∧ n ≤ c ∧ (0 < n → ∃ b off, A = some ⟨b, off, none⟩ ∧ b < w.heap.size ∧ ∀ j u, xs[j]? = some u → w.cell? ⟨b, off + j, none⟩ = some u)
section
variable {w w' : World} {k n c : Nat} {A : Option Addr} {xs : List Value}
theorem Sl.nil (w : World) (k : Nat) (A : Option Addr) (c : Nat) : Sl w k A 0 c [] := ⟨by simp, Nat.zero_le _, fun h => absurd h (Nat.lt_irrefl 0)⟩
theorem Sl.fr {S : Nat → Prop} (h : Sl w k A n c xs) (hb : Fr S w w') (hs : 0 < n → ∀ b off, A = some ⟨b, off, none⟩ → ¬ S b) : Sl w' k A n c xs :=
  ⟨h.1, h.2.1, fun hn => by
    obtain ⟨b, off, e, hlt, hc⟩ := h.2.2 hn
    exact ⟨b, off, e, Nat.lt_of_lt_of_le hlt hb.size, fun j u hu => hb.cellv (hc j u hu) (hs hn b off e)⟩⟩
theorem Sl.pu (h : Sl w k A n c xs) (hb : Pu w w') : Sl w' k A n c xs := h.fr hb (fun _ _ _ _ x => x)
theorem Sl.at_ (h : Sl w 1 A n c xs) {j : Nat} (hj : j < n) : ∃ b off u, A = some ⟨b, off, none⟩ ∧ b < w.heap.size ∧ xs[j]? = some u ∧ w.cell? ⟨b, off + j, none⟩ = some u := by
  obtain ⟨b, off, e, hlt, hc⟩ := h.2.2 (by omega)
  have hl : j < xs.length := by have := h.1; omega
  exact ⟨b, off, xs[j], e, hlt, List.getElem?_eq_getElem hl, hc j _ (List.getElem?_eq_getElem hl)⟩
theorem Sl.of_own {base : Nat} {e : TypeId} (h : w.ownsRow base e k (.slice A n c) n xs) : Sl w k A n c xs := by
  refine ⟨h.1, ?_, fun hn => ?_⟩
  · rcases h.2 with ⟨hv, h0⟩ | ⟨g, cap, cur, hv, _, _, hnc, _⟩
    · omega
    · injection hv with _ _ hc; omega
  · obtain ⟨g, cap, hv, _, hlt⟩ := h.form hn
    have hA : A = some ⟨g, 0, none⟩ := by injection hv
    subst hA
    refine ⟨g, 0, rfl, hlt, fun j u hu => ?_⟩
    have := h.cells (g := g) rfl j u hu
    rw [Nat.zero_add]
    unfold Addr.add at this
    split at this
    · rename_i h0; subst h0; exact this
    · simpa using this
end
theorem Sl.ne_blk {w : World} {k n c g : Nat} {t : TypeId} {A : Option Addr} {xs : List Value} {cs : Array Value} (h : Sl w k A n c xs) (hk : 0 < k) (hb : Blk w g t cs) (hx : ∀ u ∈ xs, u ∉ cs.toList) :
    0 < n → ∀ b off, A = some ⟨b, off, none⟩ → b ≠ g := by
  intro hn b off hA e
  obtain ⟨b', off', hA', hlt, hc⟩ := h.2.2 hn
  rw [hA] at hA'
  injection hA' with hA'
  injection hA' with e1 e2
  subst e1 e2 e
  have hl : 0 < xs.length := by rw [h.1]; exact Nat.mul_pos hn hk
  have h0 := hc 0 _ (List.getElem?_eq_getElem hl)
  rw [hb.cell] at h0
  refine hx _ (List.getElem_mem hl) ?_
  have := List.mem_of_getElem? (l := cs.toList) (i := off + 0) (a := xs[0]) (by simpa using h0)
  exact this
theorem Sl.new (w : World) (t : TypeId) (cs : Array Value) (k n c : Nat) (h : cs.size = n * k) (hc : n ≤ c) : Sl (w.alloc (.cells cs t)) k (some ⟨w.heap.size, 0, none⟩) n c cs.toList :=
  ⟨by simpa using h, hc, fun _ => ⟨_, 0, rfl, by simp, fun j u hu => by
    rw [Nat.zero_add, World.cell?_alloc_new]
    simpa using hu⟩⟩
theorem Sl.of_blk {w : World} {g : Nat} {t : TypeId} {cs : Array Value} (hb : Blk w g t cs) (k n c : Nat) (h : cs.size = n * k) (hc : n ≤ c) : Sl w k (some ⟨g, 0, none⟩) n c cs.toList :=
  ⟨by simpa using h, hc, fun _ => ⟨_, 0, rfl, hb.lt, fun j u hu => by
    rw [Nat.zero_add, hb.cell]
    simpa using hu⟩⟩
theorem Fr.one (w : World) (b i : Nat) (u : Value) : Fr (fun k => k = b) w (w.setCell ⟨b, i, none⟩ u) := Fr.setCell (S := fun k => k = b) (p := ⟨b, i, none⟩) (Fr.refl _ _) (.inl rfl) _
theorem own_ge {w : World} {base k n c : Nat} {e : TypeId} {A : Option Addr} {xs : List Value} (h : w.ownsRow base e k (.slice A n c) n xs) : ∀ b off, A = some ⟨b, off, none⟩ → base ≤ b := by
  intro b off hA
  subst hA
  exact (h.lt b rfl).1
theorem own_le {w : World} {base k n c : Nat} {e : TypeId} {A : Option Addr} {xs : List Value} (h : w.ownsRow base e k (.slice A n c) n xs) : n ≤ c ∧ c ≤ maxLen := by
  rcases h.2 with ⟨hv, h0⟩ | ⟨g, cap, cur, hv, _, _, hnc, hcm, _⟩
  · injection hv with _ _ hc
    subst hc
    exact ⟨by omega, Nat.zero_le _⟩
  · injection hv with _ _ hc
    subst hc
    exact ⟨hnc, hcm⟩
theorem own_fr {S : Nat → Prop} {w w' : World} {base k n : Nat} {e : TypeId} {v : Value} {xs : List Value} (h : w.ownsRow base e k v n xs) (hf : Fr S w w') (hs : ∀ g, v.ownBlock = some g → ¬ S g) : w'.ownsRow base e k v n xs := by
  refine ⟨h.1, ?_⟩
  rcases h.2 with hn | ⟨g, cap, cur, rfl, hb, hgg, rest⟩
  · exact .inl hn
  · refine .inr ⟨g, cap, cur, rfl, hb, ?_, rest⟩
    rw [hf.block g (Array.getElem?_eq_some_iff.1 hgg).1 (hs g rfl)]
    exact hgg
theorem own_pu {w w' : World} {base k n : Nat} {e : TypeId} {v : Value} {xs : List Value} (h : w.ownsRow base e k v n xs) (hf : Pu w w') : w'.ownsRow base e k v n xs := own_fr h hf (fun _ _ x => x)
theorem own_base {w : World} {base base' k n : Nat} {e : TypeId} {v : Value} {xs : List Value} (h : w.ownsRow base e k v n xs) (hb : base' ≤ base) : w.ownsRow base' e k v n xs := by
  refine ⟨h.1, ?_⟩
  rcases h.2 with hn | ⟨g, cap, cur, rfl, hg, rest⟩
  · exact .inl hn
  · exact .inr ⟨g, cap, cur, rfl, Nat.le_trans hb hg, rest⟩
structure ElemI (P : Program) (t e : TypeId) (z : Value) (size bytes : Nat) : Prop where
  under : P.underlying t = some (.slice e)
  info : (P.info? e).map (fun i => (i.zero, i.size, i.bytes)) = some (some z, size, bytes)
  zs : z.cells.size = size
  pos : 0 < size
theorem own_shape {w : World} {base k n : Nat} {e : TypeId} {v : Value} {xs : List Value} (h : w.ownsRow base e k v n xs) : ∃ A c, v = .slice A n c := by
  rcases h.2 with ⟨rfl, rfl⟩ | ⟨g, cap, cur, rfl, _⟩
  · exact ⟨none, 0, rfl⟩
  · exact ⟨_, cap, rfl⟩
theorem add_zero_ (b j : Nat) : (⟨b, 0, none⟩ : Addr).add j = ⟨b, j, none⟩ := by
  unfold Addr.add
  split
  · rename_i h; rw [h]
  · simp
section
variable {P : Program} {w : World} {ops : Array Oper} {rest : List Oper} {o : Oper} {a : Act} {Q : Exit → Act → World → Prop}
theorem wpList_push {t e : TypeId} {z : Value} {size bytes : Nat} (E : ElemI P t e z size bytes) (hgd : o.guard = none) (s x : Operand)
    (ho : o.op = .call { callee := .builtin .append, args := #[s, x], argTypes := #[t, t] })
    {base n c : Nat} {A : Option Addr} {xs : List Value} (us : Array Value) (hus : us.size = size) (h1 : ∀ u ∈ us.toList, u.oneCell' = true)
    (hs : a.eval s = .slice A n c) (hx : a.eval x = .slice (some ⟨w.heap.size, 0, none⟩) 1 1)
    (hown : w.ownsRow base e size (.slice A n c) n xs) (h63 : n + 1 ≤ maxLen) (hbytes : (n + 1) * bytes ≤ 140737488355328) (hbase : base ≤ w.heap.size)
    (h : ∀ A' c' w', w'.ownsRow base e size (.slice A' (n + 1) c') (n + 1) (xs ++ us.toList) → w.grownBy w' (Value.slice A n c).ownBlock → wpList P ops Q rest (a.put o.dst (.slice A' (n + 1) c')) w') :
    wpList P ops Q (o :: rest) a (w.alloc (.cells us e)) := by
  obtain ⟨i, hi, hz, hsz, hby⟩ := info_parts E.info
  refine wpList_append_own _ hgd s x t ho base e i z size bytes E.under hi hz hsz hby E.zs E.pos _ _ _ hs (hown.alloc _) ⟨w.heap.size, 0, none⟩ 1 1 us.toList hx (by simp [hus]) (fun j u hu => ?_) h1 h63 hbytes (by simp; omega) ?_
  · rw [add_zero_, World.cell?_alloc_new]
    simpa using hu
  · intro v' w' ho' hg _
    obtain ⟨A', c', rfl⟩ := own_shape ho'
    refine h A' c' w' ho' ⟨hg.os, hg.tape, hg.output, Nat.le_trans (by simp) hg.size, fun k hk hne => (hg.block k (by simp; omega) hne).trans (Below.heap_alloc w _ k hk)⟩
theorem step_push {t e : TypeId} {z : Value} {size bytes : Nat} (E : ElemI P t e z size bytes) {K : Act → World → Prop} {EE : Prop} (hgd : o.guard = none) (s x : Operand)
    (ho : o.op = .call { callee := .builtin .append, args := #[s, x], argTypes := #[t, t] })
    {base n c : Nat} {A : Option Addr} {xs : List Value} (us : Array Value) (hus : us.size = size) (h1 : ∀ u ∈ us.toList, u.oneCell' = true)
    (hs : a.eval s = .slice A n c) (hx : a.eval x = .slice (some ⟨w.heap.size, 0, none⟩) 1 1)
    (hown : w.ownsRow base e size (.slice A n c) n xs) (h63 : n + 1 ≤ maxLen) (hbytes : (n + 1) * bytes ≤ 140737488355328) (hbase : base ≤ w.heap.size)
    (h : ∀ A' c' w', w'.ownsRow base e size (.slice A' (n + 1) c') (n + 1) (xs ++ us.toList) → w.grownBy w' (Value.slice A n c).ownBlock → K (a.put o.dst (.slice A' (n + 1) c')) w') :
    if Region.wanted o (yielded ops a.tmps) = true then Oper.wp P o a (w.alloc (.cells us e)) K Q else EE := by
  obtain ⟨i, hi, hz, hsz, hby⟩ := info_parts E.info
  have hw : Region.wanted o (yielded ops a.tmps) = true := by simp [Region.wanted, hgd]
  rw [if_pos hw]
  refine wp_append_own _ s x t ho base e i z size bytes E.under hi hz hsz hby E.zs E.pos _ _ _ hs (hown.alloc _) ⟨w.heap.size, 0, none⟩ 1 1 us.toList hx (by simp [hus]) (fun j u hu => ?_) h1 h63 hbytes (by simp; omega) ?_
  · rw [add_zero_, World.cell?_alloc_new]
    simpa using hu
  · intro v' w' ho' hg _
    obtain ⟨A', c', rfl⟩ := own_shape ho'
    refine h A' c' w' ho' ⟨hg.os, hg.tape, hg.output, Nat.le_trans (by simp) hg.size, fun k hk hne => (hg.block k (by simp; omega) hne).trans (Below.heap_alloc w _ k hk)⟩
end
section
variable {P : Program} {w : World} {ops : Array Oper} {rest : List Oper} {o : Oper} {a : Act} {Q : Exit → Act → World → Prop}
theorem run_append_none {t ty e : TypeId} {z : Value} {size bytes : Nat} (E : ElemI P t e z size bytes) {base n c c2 : Nat} {A : Option Addr} {xs : List Value}
    (hown : w.ownsRow base e size (.slice A n c) n xs) : (Builtin.append_ #[t, t] ty #[.slice A n c, .slice none 0 c2]).run P w = .ok (.slice A n c) w := by
  obtain ⟨i, hi, hz, hsz, hby⟩ := info_parts E.info
  rcases hown.2 with ⟨hv, _⟩ | ⟨g, cap, cur, hv, _, _, hnc, _⟩
  · rw [hv]
    simp [Builtin.append_, run_underlying E.under, sizeOf, typeInfo, hi, Builtin.lenOf, Builtin.firstCells]
  · rw [hv]
    simp [Builtin.append_, run_underlying E.under, sizeOf, typeInfo, hi, Builtin.lenOf, Builtin.firstCells, hnc, storeCells]
theorem run_app {t ty e : TypeId} {z : Value} {size bytes : Nat} (E : ElemI P t e z size bytes) {base n c m c2 : Nat} {A B : Option Addr} {xs ys : List Value}
    (hown : w.ownsRow base e size (.slice A n c) n xs) (hr : Sl w size B m c2 ys) (h1 : ∀ u ∈ ys, u.oneCell' = true)
    (h63 : n + m ≤ maxLen) (hbytes : (n + m) * bytes ≤ 140737488355328) (hbase : base ≤ w.heap.size) :
    ∃ A' c' w', (Builtin.append_ #[t, t] ty #[.slice A n c, .slice B m c2]).run P w = .ok (.slice A' (n + m) c') w' ∧ w'.ownsRow base e size (.slice A' (n + m) c') (n + m) (xs ++ ys) ∧ w.grownBy w' (Value.slice A n c).ownBlock := by
  obtain ⟨i, hi, hz, hsz, hby⟩ := info_parts E.info
  rcases Nat.eq_zero_or_pos m with h0 | h0
  · subst h0
    obtain rfl : ys = [] := List.eq_nil_of_length_eq_zero (by simpa using hr.1)
    rcases B with _ | b
    · exact ⟨A, c, w, run_append_none E hown, by simpa using hown, World.grownBy.refl w _⟩
    · obtain ⟨v', w', hrun, h2, h3, _⟩ := run_append_own (P := P) w base t ty e i z size bytes E.under hi hz hsz hby E.zs E.pos _ n xs hown b 0 c2 [] (by simp) (by simp) (by simp) h63 hbytes hbase
      obtain ⟨A', c', rfl⟩ := own_shape h2
      exact ⟨A', c', w', hrun, h2, h3⟩
  · obtain ⟨b, off, rfl, _, hc⟩ := hr.2.2 h0
    obtain ⟨v', w', hrun, h2, h3, _⟩ := run_append_own (P := P) w base t ty e i z size bytes E.under hi hz hsz hby E.zs E.pos _ n xs hown ⟨b, off, none⟩ m c2 ys hr.1 (fun j u hu => by
      have := hc j u hu
      unfold Addr.add
      split
      · rename_i e0; subst e0; exact this
      · exact this) h1 h63 hbytes hbase
    obtain ⟨A', c', rfl⟩ := own_shape h2
    exact ⟨A', c', w', hrun, h2, h3⟩
theorem wpList_app {t e : TypeId} {z : Value} {size bytes : Nat} (E : ElemI P t e z size bytes) (hgd : o.guard = none) (s x : Operand)
    (ho : o.op = .call { callee := .builtin .append, args := #[s, x], argTypes := #[t, t] })
    {base n c m c2 : Nat} {A B : Option Addr} {xs ys : List Value} (hs : a.eval s = .slice A n c) (hx : a.eval x = .slice B m c2)
    (hown : w.ownsRow base e size (.slice A n c) n xs) (hr : Sl w size B m c2 ys) (h1 : ∀ u ∈ ys, u.oneCell' = true)
    (h63 : n + m ≤ maxLen) (hbytes : (n + m) * bytes ≤ 140737488355328) (hbase : base ≤ w.heap.size)
    (h : ∀ A' c' w', w'.ownsRow base e size (.slice A' (n + m) c') (n + m) (xs ++ ys) → w.grownBy w' (Value.slice A n c).ownBlock → wpList P ops Q rest (a.put o.dst (.slice A' (n + m) c')) w') :
    wpList P ops Q (o :: rest) a w := by
  refine wpList_plain hgd fun K hK => ?_
  obtain ⟨A', c', w', hrun, h2, h3⟩ := run_app (ty := o.type) E hown hr h1 h63 hbytes hbase
  unfold Oper.wp execOp
  simp only [ho, resolve, invoke, builtin, Sem.run_bind, Sem.run_pure, Result.andThen_ok, List.map_toArray, List.map_cons, List.map_nil, hs, hx, hrun]
  exact hK _ _ (h A' c' w' h2 h3)
end
theorem pu_push {a w w' : World} {base k n c : Nat} {e : TypeId} {A : Option Addr} {xs : List Value} (h : Pu a w) (hown : w.ownsRow base e k (.slice A n c) n xs) (hb : a.heap.size ≤ base) (hg : w.grownBy w' (Value.slice A n c).ownBlock) : Pu a w' :=
  h.grown hg (fun j hj => Nat.le_trans hb (hown.lt j hj).1)
theorem blk_push {w w' : World} {base k n c g : Nat} {e t : TypeId} {A : Option Addr} {xs : List Value} {cs : Array Value} (h : Blk w g t cs) (hown : w.ownsRow base e k (.slice A n c) n xs) (hb : g < base) (hg : w.grownBy w' (Value.slice A n c).ownBlock) : Blk w' g t cs :=
  (hg.block g h.lt (fun e => by have := (hown.lt g e.symm).1; omega)).trans h
end
section
set_option linter.unusedVariables false
open Go.RowKit
def over (l : List Value) (o : Nat) (cs : List Value) : List Value := l.take o ++ cs ++ l.drop (o + cs.length)
theorem over_len (l : List Value) (o : Nat) (cs : List Value) (h : o + cs.length ≤ l.length) : (over l o cs).length = l.length := by
  simp [over]
  omega
theorem over_get (l : List Value) (o : Nat) (cs : List Value) (h : o + cs.length ≤ l.length) (j : Nat) :
    (over l o cs)[j]? = if o ≤ j ∧ j < o + cs.length then cs[j - o]? else l[j]? := by
  unfold over
  by_cases h1 : j < o
  · rw [List.getElem?_append_left (by simp; omega), List.getElem?_append_left (by simp; omega), List.getElem?_take, if_pos h1, if_neg (by omega)]
  · by_cases h2 : j < o + cs.length
    · rw [List.getElem?_append_left (by simp; omega), List.getElem?_append_right (by simp; omega), if_pos (by omega)]
      simp
      congr 1
      omega
    · rw [List.getElem?_append_right (by simp; omega), if_neg (by omega), List.getElem?_drop]
      simp
      congr 1
      omega
theorem setRow_blk {w : World} {g : Nat} {t : TypeId} {cur : Array Value} (h : Blk w g t cur) (ds : Array Value) : Blk (w.setRow g ds) g t ds := setRow_heap w g cur ds t (0, 0) h
theorem setRow_fr (w : World) (g : Nat) (ds : Array Value) : Fr (fun k => k = g) w (w.setRow g ds) := by
  refine ⟨rfl, rfl, rfl, by simp [World.setRow], fun k _ hk => ?_⟩
  simp only [World.setRow, Array.getElem?_modify]
  rw [if_neg (fun e => hk e.symm)]
section
variable {P : Program} {w : World} {ops : Array Oper} {rest : List Oper} {o : Oper} {a : Act} {Q : Exit → Act → World → Prop}
theorem run_copy_blk (w : World) (dT sT ty elem : TypeId) (k g off dLen dCap : Nat) (s : Addr) (sLen sCap : Nat) (cur : Array Value) (t : TypeId) (cs : List Value)
    (hu : P.underlying dT = some (.slice elem)) (hs : (P.info? elem).map (·.size) = some k) (hg : Blk w g t cur) (hn : cs.length = Nat.min sLen dLen * k)
    (hsrc : ∀ j v, cs[j]? = some v → w.cell? (s.add j) = some v) (hfit : off + cs.length ≤ cur.size) (h1 : ∀ v ∈ cs, v.oneCell' = true) :
    (Builtin.copy_ #[dT, sT] ty #[.slice (some ⟨g, off, none⟩) dLen dCap, .slice (some s) sLen sCap]).run P w =
      .ok (goInt (Nat.min sLen dLen)) (w.setRow g (over cur.toList off cs).toArray) := by
  have hl := run_loadCells_list (P := P) w s cs hsrc
  have hst := run_storeCells_at P g off t cs 0 cur w hg (by simpa using hfit) h1
  cases hq : P.info? elem with
  | none => simp [hq] at hs
  | some i =>
    have hi : i.size = k := by simpa [hq] using hs
    simp only [Nat.add_zero] at hst
    simp [Builtin.copy_, run_underlying hu, Builtin.lenOf, Builtin.firstCells, sizeOf, typeInfo, hq, hi, ← hn, hl, hst, over]
theorem zero_one {z : Value} (h1 : ∀ u ∈ z.cells.toList, u.oneCell' = true) (n : Nat) : ∀ u ∈ (Builtin.zeroCells z.cells n).toList, u.oneCell' = true := by
  intro u hu
  simp only [Builtin.zeroCells, Array.toList_map, List.mem_map] at hu
  obtain ⟨i, hi, rfl⟩ := hu
  simp at hi
  have h0 : 0 < z.cells.size := by
    rcases Nat.eq_zero_or_pos z.cells.size with h | h
    · rw [h] at hi
      omega
    · exact h
  rw [getElem!_pos z.cells _ (Nat.mod_lt _ h0)]
  exact h1 _ (by simp)
theorem run_clear_blk (w : World) (t e ty : TypeId) (z : Value) (k : Nat) (ht : P.underlying t = some (.slice e)) (hz : ∀ w, (zeroValue e).run P w = .ok z w) (hk : z.cells.size = k) (h1 : ∀ u ∈ z.cells.toList, u.oneCell' = true)
    (g off n c : Nat) (hn : 0 < n) (cur : Array Value) (tt : TypeId) (hg : Blk w g tt cur) (hfit : off + n * k ≤ cur.size) :
    (Builtin.clear_ #[t] ty #[.slice (some ⟨g, off, none⟩) n c]).run P w = .ok (.tuple #[]) (w.setRow g (over cur.toList off (Builtin.zeroCells z.cells n).toList).toArray) := by
  have hlen : (Builtin.zeroCells z.cells n).toList.length = n * k := by simp [Builtin.zeroCells, hk, Nat.mul_comm]
  have hst := run_storeCells_at P g off tt (Builtin.zeroCells z.cells n).toList 0 cur w hg (by rw [hlen]; simpa using hfit) (zero_one h1 n)
  obtain ⟨m, rfl⟩ : ∃ m, n = m + 1 := ⟨n - 1, by omega⟩
  simp only [Nat.add_zero] at hst
  simp [Builtin.clear_, run_underlying ht, hz, hst, over]
end
section
variable {P : Program} {w : World} {ops : Array Oper} {rest : List Oper} {o : Oper} {a : Act} {Q : Exit → Act → World → Prop}
theorem run_builtin {bi : Builtin} {S : Array TypeId → TypeId → Array Value → Sem Value} (hb : ∀ ats ty cs args, builtin bi ats ty cs args = (S ats ty args >>= fun v => pure (.value v))) {ats : Array TypeId} {ty : TypeId} (cs : Array Bool) {args : Array Value} {v' : Value} {w' : World}
    (hr : (S ats ty args).run P w = .ok v' w') : (builtin bi ats ty cs args).run P w = .ok (.value v') w' := by
  rw [hb]
  simp [hr]
theorem wp_builtin2 {bi : Builtin} {S : Array TypeId → TypeId → Array Value → Sem Value} (hb : ∀ ats ty cs args, builtin bi ats ty cs args = (S ats ty args >>= fun v => pure (.value v))) {K : Act → World → Prop} (d s : Operand) (ats : Array TypeId)
    (ho : o.op = .call { callee := .builtin bi, args := #[d, s], argTypes := ats }) (v u : Value) (hd : a.eval d = v) (hs : a.eval s = u) {v' : Value} {w' : World}
    (hr : (S ats o.type #[v, u]).run P w = .ok v' w') (h : K (a.put o.dst v') w') : o.wp P a w K Q := by
  have hr2 := fun cs => run_builtin hb cs hr
  unfold Oper.wp execOp
  simp only [ho, resolve, invoke, Sem.run_bind, Sem.run_pure, Result.andThen_ok, List.map_toArray, List.map_cons, List.map_nil, hd, hs, hr2]
  exact h
theorem wpList_builtin2 {bi : Builtin} {S : Array TypeId → TypeId → Array Value → Sem Value} (hb : ∀ ats ty cs args, builtin bi ats ty cs args = (S ats ty args >>= fun v => pure (.value v))) (hgd : o.guard = none) (d s : Operand) (ats : Array TypeId)
    (ho : o.op = .call { callee := .builtin bi, args := #[d, s], argTypes := ats }) (v u : Value) (hd : a.eval d = v) (hs : a.eval s = u) {v' : Value} {w' : World}
    (hr : (S ats o.type #[v, u]).run P w = .ok v' w') (h : wpList P ops Q rest (a.put o.dst v') w') : wpList P ops Q (o :: rest) a w :=
  wpList_plain hgd fun _ hK => wp_builtin2 hb d s ats ho v u hd hs hr (hK _ _ h)
theorem step_builtin2 {bi : Builtin} {S : Array TypeId → TypeId → Array Value → Sem Value} (hb : ∀ ats ty cs args, builtin bi ats ty cs args = (S ats ty args >>= fun v => pure (.value v))) {K : Act → World → Prop} {E : Prop} (hgd : o.guard = none) (d s : Operand) (ats : Array TypeId)
    (ho : o.op = .call { callee := .builtin bi, args := #[d, s], argTypes := ats }) (v u : Value) (hd : a.eval d = v) (hs : a.eval s = u) {v' : Value} {w' : World}
    (hr : (S ats o.type #[v, u]).run P w = .ok v' w') (hK : K (a.put o.dst v') w') : if Region.wanted o (yielded ops a.tmps) = true then Oper.wp P o a w K Q else E := by
  have hw : Region.wanted o (yielded ops a.tmps) = true := by simp [Region.wanted, hgd]
  rw [if_pos hw]
  exact wp_builtin2 hb d s ats ho v u hd hs hr hK
theorem wpList_builtin1 {bi : Builtin} {S : Array TypeId → TypeId → Array Value → Sem Value} (hb : ∀ ats ty cs args, builtin bi ats ty cs args = (S ats ty args >>= fun v => pure (.value v))) (hgd : o.guard = none) (d : Operand) (ats : Array TypeId)
    (ho : o.op = .call { callee := .builtin bi, args := #[d], argTypes := ats }) (v : Value) (hd : a.eval d = v) {v' : Value} {w' : World}
    (hr : (S ats o.type #[v]).run P w = .ok v' w') (h : wpList P ops Q rest (a.put o.dst v') w') : wpList P ops Q (o :: rest) a w := by
  refine wpList_plain hgd fun K hK => ?_
  have hr2 := fun cs => run_builtin hb cs hr
  unfold Oper.wp execOp
  simp only [ho, resolve, invoke, Sem.run_bind, Sem.run_pure, Result.andThen_ok, List.map_toArray, List.map_cons, List.map_nil, hd, hr2]
  exact hK _ _ h
theorem wpList_pushAt {t e : TypeId} {z : Value} {size bytes : Nat} (E : ElemI P t e z size bytes) (hgd : o.guard = none) (s x : Operand)
    (ho : o.op = .call { callee := .builtin .append, args := #[s, x], argTypes := #[t, t] })
    {base n c q : Nat} {A : Option Addr} {xs : List Value} (us : Array Value) (hus : us.size = size) (h1 : ∀ u ∈ us.toList, u.oneCell' = true)
    (hs : a.eval s = .slice A n c) (hx : a.eval x = .slice (some ⟨q, 0, none⟩) 1 1) (hq : w.heap.size = q)
    (hown : w.ownsRow base e size (.slice A n c) n xs) (h63 : n + 1 ≤ maxLen) (hbytes : (n + 1) * bytes ≤ 140737488355328) (hbase : base ≤ w.heap.size)
    (h : ∀ A' c' w', w'.ownsRow base e size (.slice A' (n + 1) c') (n + 1) (xs ++ us.toList) → w.grownBy w' (Value.slice A n c).ownBlock → wpList P ops Q rest (a.put o.dst (.slice A' (n + 1) c')) w') :
    wpList P ops Q (o :: rest) a (w.alloc (.cells us e)) := wpList_push E hgd s x ho us hus h1 hs (by rw [hq]; exact hx) hown h63 hbytes hbase h
end
section
variable {P : Program} {w : World} {ops : Array Oper} {rest : List Oper} {o : Oper} {a : Act} {Q : Exit → Act → World → Prop}
theorem step_app {t e : TypeId} {z : Value} {size bytes : Nat} (E : ElemI P t e z size bytes) {K : Act → World → Prop} {EE : Prop} (hgd : o.guard = none) (s x : Operand)
    (ho : o.op = .call { callee := .builtin .append, args := #[s, x], argTypes := #[t, t] })
    {base n c m c2 : Nat} {A B : Option Addr} {xs ys : List Value} (hs : a.eval s = .slice A n c) (hx : a.eval x = .slice B m c2)
    (hown : w.ownsRow base e size (.slice A n c) n xs) (hr : Sl w size B m c2 ys) (h1 : ∀ u ∈ ys, u.oneCell' = true)
    (h63 : n + m ≤ maxLen) (hbytes : (n + m) * bytes ≤ 140737488355328) (hbase : base ≤ w.heap.size)
    (h : ∀ A' c' w', w'.ownsRow base e size (.slice A' (n + m) c') (n + m) (xs ++ ys) → w.grownBy w' (Value.slice A n c).ownBlock → K (a.put o.dst (.slice A' (n + m) c')) w') :
    if Region.wanted o (yielded ops a.tmps) = true then Oper.wp P o a w K Q else EE := by
  obtain ⟨A', c', w', hrun, h2, h3⟩ := run_app (ty := o.type) E hown hr h1 h63 hbytes hbase
  exact step_builtin2 (S := Builtin.append_) (fun _ _ _ _ => rfl) hgd s x #[t, t] ho _ _ hs hx hrun (h A' c' w' h2 h3)
end
theorem own_blk {w : World} {base k n c : Nat} {e : TypeId} {A : Option Addr} {xs : List Value} (h : w.ownsRow base e k (.slice A n c) n xs) (hn : 0 < n) :
    ∃ g cur, A = some ⟨g, 0, none⟩ ∧ base ≤ g ∧ Blk w g e cur ∧ n ≤ c ∧ c ≤ maxLen ∧ cur.size = c * k ∧ cur.toList.take (n * k) = xs := by
  rcases h.2 with ⟨_, h0⟩ | ⟨g, cap, cur, hv, hb, hg, h1, h2, h3, h4⟩
  · omega
  · injection hv with e1 _ e3
    subst e1 e3
    exact ⟨g, cur, rfl, hb, hg, h1, h2, h3, h4⟩
theorem own_of_blk {w : World} {base k n c g : Nat} {e : TypeId} {xs : List Value} {cur : Array Value} (hb : base ≤ g) (hg : Blk w g e cur) (hn : n ≤ c) (hc : c ≤ maxLen) (hs : cur.size = c * k) (hx : xs.length = n * k)
    (h : ∀ j, j < n * k → cur[j]? = xs[j]?) : w.ownsRow base e k (.slice (some ⟨g, 0, none⟩) n c) n xs := by
  refine ⟨hx, .inr ⟨g, c, cur, rfl, hb, hg, hn, hc, hs, ?_⟩⟩
  apply List.ext_getElem?
  intro j
  rw [List.getElem?_take]
  split
  · rename_i hj
    rw [← h j hj]
    simp
  · rename_i hj
    rw [List.getElem?_eq_none (by omega)]
theorem Blk.shape {w : World} {g : Nat} {t : TypeId} {cs : Array Value} (h : Blk w g t cs) : w.shape? g = some (t, cs.size) := by
  unfold Blk at h
  simp [World.shape?, h]
section
variable {P : Program} {w : World} {ops : Array Oper} {rest : List Oper} {o : Oper} {a : Act} {Q : Exit → Act → World → Prop}
theorem wpList_appL {t e : TypeId} {z : Value} {size bytes : Nat} (E : ElemI P t e z size bytes) (hgd : o.guard = none) (s x : Operand)
    (ho : o.op = .call { callee := .builtin .append, args := #[s, x], argTypes := #[t, t] })
    {base n c m c2 : Nat} {A B : Option Addr} {xs ys : List Value} (hs : a.eval s = .slice A n c) (hx : a.eval x = .slice B m c2)
    (hown : w.ownsRow base e size (.slice A n c) n xs) (hr : Sl w size B m c2 ys) (h1 : ∀ u ∈ ys, u.oneCell' = true) (hm : 0 < m)
    (h63 : n + m ≤ maxLen) (hbytes : (n + m) * bytes ≤ 140737488355328) (hbase : base ≤ w.heap.size)
    (h : ∀ g c' w', w'.ownsRow base e size (.slice (some ⟨g, 0, none⟩) (n + m) c') (n + m) (xs ++ ys) → w.grownBy w' (Value.slice A n c).ownBlock → ((Value.slice A n c).ownBlock = some g ∨ g = w.heap.size) → wpList P ops Q rest (a.put o.dst (.slice (some ⟨g, 0, none⟩) (n + m) c')) w') :
    wpList P ops Q (o :: rest) a w := by
  obtain ⟨i, hi, hz, hsz, hby⟩ := info_parts E.info
  obtain ⟨b, off, rfl, _, hc⟩ := hr.2.2 hm
  refine wpList_append_lies _ hgd s x t ho base e i z size bytes E.under hi hz hsz hby E.zs E.pos _ n xs hs hown ⟨b, off, none⟩ m c2 ys hx hr.1 (fun j u hu => ?_) h1 hm h63 hbytes hbase w.heap.size rfl ?_
  · have := hc j u hu
    unfold Addr.add
    split
    · rename_i e0; subst e0; exact this
    · exact this
  · intro g cap w' h2 h3 h4 _
    exact h g cap w' h2 h3 h4
end
end
section
set_option linter.unusedVariables false
open Go.RowKit
abbrev Key := List UInt8
theorem kcase (x y : Key) : x < y ∨ x = y ∨ y < x := by
  rcases Decidable.em (x < y) with h | h
  · exact .inl h
  · rcases Decidable.em (x = y) with e | e
    · exact .inr (.inl e)
    · exact .inr (.inr (Std.lt_of_le_of_ne (List.not_lt.1 h) (fun e' => e e'.symm)))
theorem kirr (x : Key) : ¬ x < x := List.lt_irrefl x
theorem ktrans {x y z : Key} (h1 : x < y) (h2 : y < z) : x < z := List.lt_trans h1 h2
section
variable {P : Type}
def kps (vc : P → List Value) (l : List (Key × P)) : List Value := l.flatMap fun q => Value.string ⟨q.1.toArray⟩ :: vc q.2
variable {vc : P → List Value} {s : Nat}
theorem kps_cons (q : Key × P) (l : List (Key × P)) : kps vc (q :: l) = (Value.string ⟨q.1.toArray⟩ :: vc q.2) ++ kps vc l := rfl
theorem kps_append (l l' : List (Key × P)) : kps vc (l ++ l') = kps vc l ++ kps vc l' := by simp [kps]
theorem kps_len (hvc : ∀ p, (vc p).length = s) : ∀ (l : List (Key × P)), (kps vc l).length = l.length * (s + 1)
  | [] => by simp [kps]
  | q :: l => by
    have h := kps_len hvc l
    rw [kps_cons, List.length_append, h, List.length_cons, hvc, List.length_cons, Nat.succ_mul]
    omega
theorem kps_take (hvc : ∀ p, (vc p).length = s) : ∀ (l : List (Key × P)) (i : Nat), kps vc (l.take i) = (kps vc l).take (i * (s + 1))
  | [], i => by simp [kps]
  | q :: l, 0 => by simp [kps]
  | q :: l, i + 1 => by
    have h := kps_take hvc l i
    rw [List.take_succ_cons, kps_cons, kps_cons, h, Nat.succ_mul]
    have hl : (Value.string ⟨q.1.toArray⟩ :: vc q.2).length = s + 1 := by rw [List.length_cons, hvc]
    rw [Nat.add_comm (i * (s + 1)), ← hl, List.take_length_add_append]
theorem kps_drop (hvc : ∀ p, (vc p).length = s) : ∀ (l : List (Key × P)) (i : Nat), kps vc (l.drop i) = (kps vc l).drop (i * (s + 1))
  | [], i => by simp [kps]
  | q :: l, 0 => by simp [kps]
  | q :: l, i + 1 => by
    have h := kps_drop hvc l i
    rw [List.drop_succ_cons, kps_cons, h, Nat.succ_mul]
    have hl : (Value.string ⟨q.1.toArray⟩ :: vc q.2).length = s + 1 := by rw [List.length_cons, hvc]
    rw [Nat.add_comm (i * (s + 1)), ← hl, List.drop_length_add_append]
theorem kps_get (hvc : ∀ p, (vc p).length = s) {l : List (Key × P)} {j : Nat} {q : Key × P} (h : l[j]? = some q) : ∀ t, t < s + 1 → (kps vc l)[j * (s + 1) + t]? = (Value.string ⟨q.1.toArray⟩ :: vc q.2)[t]? := by
  intro t ht
  have e : l = l.take j ++ q :: l.drop (j + 1) := by
    obtain ⟨hj, rfl⟩ := List.getElem?_eq_some_iff.1 h
    simp
  have hj := (List.getElem?_eq_some_iff.1 h).1
  have hl : (kps vc (l.take j)).length = j * (s + 1) := by
    rw [kps_len hvc, List.length_take, Nat.min_eq_left (by omega)]
  have e2 : kps vc l = kps vc (l.take j ++ q :: l.drop (j + 1)) := congrArg (kps vc) e
  rw [kps_append, kps_cons] at e2
  rw [e2, List.getElem?_append_right (by omega), hl, Nat.add_sub_cancel_left, List.getElem?_append_left (by rw [List.length_cons, hvc]; exact ht)]
theorem kps_one (h1 : ∀ p, ∀ u ∈ vc p, u.oneCell' = true) (l : List (Key × P)) : ∀ u ∈ kps vc l, u.oneCell' = true := by
  intro u hu
  simp only [kps, List.mem_flatMap] at hu
  obtain ⟨q, _, hu⟩ := hu
  rcases List.mem_cons.1 hu with rfl | hu
  · rfl
  · exact h1 _ u hu
theorem Sl.klen {w : World} {A : Option Addr} {n c : Nat} {l : List (Key × P)} (hvc : ∀ p, (vc p).length = s) (h : Sl w (s + 1) A n c (kps vc l)) : l.length = n := by
  have h1 := h.1
  rw [kps_len hvc] at h1
  exact Nat.eq_of_mul_eq_mul_right (Nat.succ_pos s) h1
theorem kps_at {w : World} {A : Option Addr} {n c : Nat} {l : List (Key × P)} (hvc : ∀ p, (vc p).length = s) (h : Sl w (s + 1) A n c (kps vc l)) {j : Nat} {q : Key × P} (hj : l[j]? = some q) :
    ∃ b off, A = some ⟨b, off, none⟩ ∧ b < w.heap.size ∧ w.cell? ⟨b, off + j * (s + 1), none⟩ = some (.string ⟨q.1.toArray⟩) ∧ ∀ t u, (vc q.2)[t]? = some u → w.cell? ⟨b, off + j * (s + 1) + 1 + t, none⟩ = some u := by
  have hl := h.klen hvc
  have hj' := (List.getElem?_eq_some_iff.1 hj).1
  obtain ⟨b, off, rfl, hb, hc⟩ := h.2.2 (by omega)
  refine ⟨b, off, rfl, hb, ?_, fun t u hu => ?_⟩
  · have := kps_get hvc hj 0 (by omega)
    exact hc _ _ this
  · have ht := (List.getElem?_eq_some_iff.1 hu).1
    rw [hvc] at ht
    have h2 := kps_get hvc hj (1 + t) (by omega)
    have h3 : (Value.string ⟨q.1.toArray⟩ :: vc q.2)[1 + t]? = some u := by rw [Nat.add_comm 1 t]; exact hu
    rw [h3] at h2
    have := hc _ _ h2
    rwa [← Nat.add_assoc, ← Nat.add_assoc] at this
def Rise (l : List (Key × P)) : Prop := l.Pairwise fun p q => p.1 < q.1
def place (l : List (Key × P)) (k : Key) : Nat := l.countP fun p => decide (p.1 < k)
def there (l : List (Key × P)) (k : Key) : Bool := l.any fun p => decide (p.1 = k)
theorem place_le (l : List (Key × P)) (k : Key) : place l k ≤ l.length := List.countP_le_length
theorem place_spec (k : Key) : ∀ (l : List (Key × P)), Rise l → ∀ j p, l[j]? = some p → (j < place l k ↔ p.1 < k)
  | [], _, j, p, h => by simp at h
  | q :: l, hr, j, p, h => by
    have hr' : Rise l := (List.pairwise_cons.1 hr).2
    have hq := (List.pairwise_cons.1 hr).1
    have ih := place_spec k l hr'
    unfold place at *
    by_cases c : q.1 < k
    · rw [List.countP_cons_of_pos (by simpa using c)]
      cases j with
      | zero =>
        simp at h
        subst h
        simp [c]
      | succ j =>
        have := ih j p (by simpa using h)
        rw [← this]
        omega
    · rw [List.countP_cons_of_neg (by simpa using c)]
      have z : l.countP (fun p => decide (p.1 < k)) = 0 := by
        rw [List.countP_eq_zero]
        intro p hp hd
        exact c (ktrans (hq p hp) (by simpa using hd))
      rw [z]
      cases j with
      | zero =>
        simp at h
        subst h
        simp [c]
      | succ j =>
        have h1 := hq p (List.mem_of_getElem? (l := l) (i := j) (by simpa using h))
        constructor
        · intro h2
          omega
        · intro h2
          exact absurd (ktrans h1 h2) c
theorem rise_lt {l : List (Key × P)} (hr : Rise l) {i j : Nat} {p q : Key × P} (hi : l[i]? = some p) (hj : l[j]? = some q) (hij : i < j) : p.1 < q.1 := by
  obtain ⟨hi', rfl⟩ := List.getElem?_eq_some_iff.1 hi
  obtain ⟨hj', rfl⟩ := List.getElem?_eq_some_iff.1 hj
  exact List.pairwise_iff_getElem.1 hr i j hi' hj' hij
theorem there_iff {l : List (Key × P)} (hr : Rise l) (k : Key) : there l k = true ↔ ∃ v, l[place l k]? = some (k, v) := by
  constructor
  · intro h
    obtain ⟨p, hp, hk⟩ := List.any_eq_true.1 h
    have hk : p.1 = k := by simpa using hk
    obtain ⟨j, hj⟩ := List.getElem?_of_mem hp
    have h1 := place_spec k l hr j p hj
    have hjl := (List.getElem?_eq_some_iff.1 hj).1
    have h2 : place l k ≤ j := by
      rcases Nat.lt_or_ge j (place l k) with h | h
      · have := h1.1 h
        rw [hk] at this
        exact absurd this (kirr k)
      · exact h
    have h3 : j ≤ place l k := by
      rcases Nat.lt_or_ge (place l k) j with h | h
      · have h4 := rise_lt hr (List.getElem?_eq_getElem (show place l k < l.length by omega)) hj h
        rw [hk] at h4
        have h5 := (place_spec k l hr (place l k) _ (List.getElem?_eq_getElem (by omega))).2 h4
        omega
      · exact h
    have e : place l k = j := by omega
    exact ⟨p.2, by rw [e, hj, ← hk]⟩
  · rintro ⟨v, hv⟩
    exact List.any_eq_true.2 ⟨_, List.mem_of_getElem? hv, by simp⟩
theorem not_there {l : List (Key × P)} {k : Key} (h : there l k = false) {j : Nat} {p : Key × P} (hj : l[j]? = some p) : p.1 ≠ k := by
  intro e
  have : there l k = true := List.any_eq_true.2 ⟨p, List.mem_of_getElem? hj, by simpa using e⟩
  rw [h] at this
  cases this
def putM (l : List (Key × P)) (k : Key) (v : P) : List (Key × P) := if there l k then l.take (place l k) ++ (k, v) :: l.drop (place l k + 1) else l.take (place l k) ++ (k, v) :: l.drop (place l k)
def dropM (l : List (Key × P)) (k : Key) : List (Key × P) := if there l k then l.take (place l k) ++ l.drop (place l k + 1) else l
theorem there_at {l : List (Key × P)} (hr : Rise l) {k : Key} {j : Nat} {p : Key × P} (hj : l[j]? = some p) (e : p.1 = k) : there l k = true ∧ place l k = j := by
  have h1 : there l k = true := List.any_eq_true.2 ⟨p, List.mem_of_getElem? hj, by simpa using e⟩
  refine ⟨h1, ?_⟩
  obtain ⟨v, hv⟩ := (there_iff hr k).1 h1
  rcases Nat.lt_trichotomy (place l k) j with h | h | h
  · have := rise_lt hr hv hj h
    rw [e] at this
    exact absurd this (kirr k)
  · exact h
  · have := rise_lt hr hj hv h
    rw [e] at this
    exact absurd this (kirr k)
theorem take_lt {l : List (Key × P)} (hr : Rise l) {k : Key} : ∀ p ∈ l.take (place l k), p.1 < k := by
  intro p hp
  obtain ⟨j, hj⟩ := List.getElem?_of_mem hp
  rw [List.getElem?_take] at hj
  split at hj
  · rename_i h
    exact (place_spec k l hr j p hj).1 h
  · cases hj
theorem drop_ge {l : List (Key × P)} (hr : Rise l) {k : Key} {m : Nat} (hm : place l k ≤ m) : ∀ p ∈ l.drop m, ¬ p.1 < k := by
  intro p hp h
  obtain ⟨j, hj⟩ := List.getElem?_of_mem hp
  rw [List.getElem?_drop] at hj
  have := (place_spec k l hr _ p hj).2 h
  omega
theorem putM_rise {l : List (Key × P)} (hr : Rise l) (k : Key) (v : P) : Rise (putM l k v) := by
  have key : ∀ m, place l k ≤ m → (∀ p ∈ l.drop m, p.1 ≠ k) → Rise (l.take (place l k) ++ (k, v) :: l.drop m) := fun m hm hne => by
    have hgt : ∀ p ∈ l.drop m, k < p.1 := fun p hp => by
      rcases kcase k p.1 with h | h | h
      · exact h
      · exact absurd h.symm (hne p hp)
      · exact absurd h (drop_ge hr hm p hp)
    unfold Rise
    rw [List.pairwise_append, List.pairwise_cons]
    refine ⟨hr.sublist (List.take_sublist _ _), ⟨hgt, hr.sublist (List.drop_sublist _ _)⟩, fun p hp q hq => ?_⟩
    have h1 := take_lt hr p hp
    rcases List.mem_cons.1 hq with rfl | hq
    · exact h1
    · exact ktrans h1 (hgt q hq)
  unfold putM
  split
  · rename_i h
    obtain ⟨u, hu⟩ := (there_iff hr k).1 h
    refine key _ (Nat.le_succ _) fun p hp e => ?_
    obtain ⟨j, hj⟩ := List.getElem?_of_mem hp
    rw [List.getElem?_drop] at hj
    have := rise_lt hr hu hj (by omega)
    rw [e] at this
    exact kirr k this
  · rename_i h
    refine key _ (Nat.le_refl _) fun p hp => ?_
    obtain ⟨j, hj⟩ := List.getElem?_of_mem hp
    rw [List.getElem?_drop] at hj
    exact not_there (by simpa using h) hj
theorem dropM_rise {l : List (Key × P)} (hr : Rise l) (k : Key) : Rise (dropM l k) := by
  unfold dropM
  split
  · refine hr.sublist ?_
    have h1 : (l.drop (place l k + 1)).Sublist (l.drop (place l k)) := by
      have := List.drop_sublist 1 (l.drop (place l k))
      rwa [List.drop_drop] at this
    have := (List.Sublist.refl (l.take (place l k))).append h1
    rwa [List.take_append_drop] at this
  · exact hr
theorem putM_len (l : List (Key × P)) (k : Key) (v : P) : (putM l k v).length ≤ l.length + 1 := by
  have := place_le l k
  unfold putM
  split <;> simp <;> omega
theorem dropM_len (l : List (Key × P)) (k : Key) : (dropM l k).length ≤ l.length := by
  have := place_le l k
  unfold dropM
  split <;> simp <;> omega
abbrev putAt (l : List (Key × P)) (i : Nat) (k : Key) (v : P) : List (Key × P) := l.take i ++ (k, v) :: l.drop i
theorem putAt_len {l : List (Key × P)} {i : Nat} {k : Key} {v : P} (hi : i ≤ l.length) : (putAt l i k v).length = l.length + 1 := by
  simp [putAt]
  omega
theorem putAt_get (hvc : ∀ p, (vc p).length = s) {l : List (Key × P)} {i : Nat} {k : Key} {v : P} (hi : i ≤ l.length) (j : Nat) :
    (kps vc (putAt l i k v))[j]? = if j < i * (s + 1) then (kps vc l)[j]? else if j < i * (s + 1) + (s + 1) then (Value.string ⟨k.toArray⟩ :: vc v)[j - i * (s + 1)]? else (kps vc l)[j - (s + 1)]? := by
  have e : kps vc (putAt l i k v) = kps vc (l.take i) ++ ((Value.string ⟨k.toArray⟩ :: vc v) ++ kps vc (l.drop i)) := by rw [kps_append, kps_cons]
  have htl : (kps vc (l.take i)).length = i * (s + 1) := by rw [kps_len hvc, List.length_take, Nat.min_eq_left hi]
  have hcl : (Value.string ⟨k.toArray⟩ :: vc v).length = s + 1 := by rw [List.length_cons, hvc]
  rw [e]
  by_cases h1 : j < i * (s + 1)
  · rw [if_pos h1, List.getElem?_append_left (by omega), kps_take hvc, List.getElem?_take, if_pos h1]
  · rw [if_neg h1, List.getElem?_append_right (by omega), htl]
    by_cases h2 : j < i * (s + 1) + (s + 1)
    · rw [if_pos h2, List.getElem?_append_left (by omega)]
    · rw [if_neg h2, List.getElem?_append_right (by omega), kps_drop hvc, List.getElem?_drop, hcl]
      congr 1
      omega
theorem setAt_get (hvc : ∀ p, (vc p).length = s) {l : List (Key × P)} {i : Nat} {k : Key} {u v : P} (hi : l[i]? = some (k, u)) (j : Nat) :
    (kps vc (l.take i ++ (k, v) :: l.drop (i + 1)))[j]? = if i * (s + 1) < j ∧ j < i * (s + 1) + (s + 1) then (vc v)[j - i * (s + 1) - 1]? else (kps vc l)[j]? := by
  have hil := (List.getElem?_eq_some_iff.1 hi).1
  have e : kps vc (l.take i ++ (k, v) :: l.drop (i + 1)) = kps vc (l.take i) ++ ((Value.string ⟨k.toArray⟩ :: vc v) ++ kps vc (l.drop (i + 1))) := by rw [kps_append, kps_cons]
  have htl : (kps vc (l.take i)).length = i * (s + 1) := by rw [kps_len hvc, List.length_take, Nat.min_eq_left (by omega)]
  have hcl : (Value.string ⟨k.toArray⟩ :: vc v).length = s + 1 := by rw [List.length_cons, hvc]
  rw [e]
  by_cases h1 : j < i * (s + 1)
  · rw [if_neg (by omega), List.getElem?_append_left (by omega), kps_take hvc, List.getElem?_take, if_pos h1]
  · rw [List.getElem?_append_right (by omega), htl]
    by_cases h2 : j < i * (s + 1) + (s + 1)
    · rw [List.getElem?_append_left (by omega)]
      have hg := kps_get hvc hi (j - i * (s + 1)) (by omega)
      rw [show i * (s + 1) + (j - i * (s + 1)) = j by omega] at hg
      by_cases h3 : j = i * (s + 1)
      · rw [if_neg (by omega), hg, show j - i * (s + 1) = 0 by omega]
        rfl
      · rw [if_pos (by omega)]
        obtain ⟨t, ht⟩ : ∃ t, j - i * (s + 1) = t + 1 := ⟨j - i * (s + 1) - 1, by omega⟩
        rw [ht, List.getElem?_cons_succ, Nat.add_sub_cancel]
    · rw [if_neg (by omega), List.getElem?_append_right (by omega), kps_drop hvc, List.getElem?_drop, hcl, Nat.succ_mul]
      congr 1
      omega
end
end
section
set_option linter.unusedVariables false
open Go.RowKit
section
variable {P Q : Type}
theorem place_all {l : List (Key × P)} {k : Key} (h : ∀ p ∈ l, p.1 < k) : place l k = l.length := by
  unfold place
  rw [List.countP_eq_length]
  intro p hp
  simpa using h p hp
theorem there_not {l : List (Key × P)} {k : Key} (h : ∀ p ∈ l, p.1 ≠ k) : there l k = false := by
  unfold there
  rw [List.any_eq_false]
  intro p hp
  simpa using h p hp
theorem klt_ne {x y : Key} (h : x < y) : x ≠ y := fun e => kirr y (e ▸ h)
theorem putM_last {l : List (Key × P)} {k : Key} (h : ∀ p ∈ l, p.1 < k) (v : P) : putM l k v = l ++ [(k, v)] := by
  unfold putM
  rw [there_not (fun p hp => klt_ne (h p hp)), place_all h]
  simp
theorem puts_rise (f : Key × P → Q) : ∀ (l : List (Key × P)) (acc : List (Key × Q)), Rise l → (∀ p ∈ acc, ∀ q ∈ l, p.1 < q.1) → l.foldl (fun a q => putM a q.1 (f q)) acc = acc ++ l.map fun q => (q.1, f q)
  | [], acc, _, _ => by simp
  | q :: l, acc, hr, h => by
    have hr' := List.pairwise_cons.1 hr
    rw [List.foldl_cons, putM_last (fun p hp => h p hp q (List.mem_cons_self ..)), puts_rise f l _ hr'.2 (fun p hp r hr2 => by
      rcases List.mem_append.1 hp with hp | hp
      · exact h p hp r (List.mem_cons_of_mem _ hr2)
      · rw [List.mem_singleton] at hp
        rw [hp]
        exact hr'.1 r hr2)]
    simp
def lookM (l : List (Key × P)) (k : Key) : Option P := if there l k then (l[place l k]?).map (·.2) else none
theorem look_there {l : List (Key × P)} {k : Key} (h : there l k = false) : lookM l k = none := by
  unfold lookM
  rw [h]
  rfl
theorem look_some {l : List (Key × P)} (hr : Rise l) {k : Key} {v : P} : lookM l k = some v ↔ (k, v) ∈ l := by
  unfold lookM
  constructor
  · intro h
    split at h
    · rename_i ht
      obtain ⟨u, hu⟩ := (there_iff hr k).1 ht
      rw [hu] at h
      injection h with h
      dsimp only at h
      subst h
      exact List.mem_of_getElem? hu
    · cases h
  · intro h
    obtain ⟨j, hj⟩ := List.getElem?_of_mem h
    obtain ⟨h1, h2⟩ := there_at hr hj rfl
    rw [h1, if_pos rfl, h2, hj]
    rfl
theorem rise_unique {l : List (Key × P)} (hr : Rise l) {k : Key} {u v : P} (h1 : (k, u) ∈ l) (h2 : (k, v) ∈ l) : u = v := by
  have e1 := (look_some hr).2 h1
  have e2 := (look_some hr).2 h2
  rw [e1] at e2
  injection e2
theorem mem_put {l : List (Key × P)} (hr : Rise l) (k : Key) (v : P) (f : Key × P) : f ∈ putM l k v ↔ f = (k, v) ∨ f ∈ l ∧ f.1 ≠ k := by
  have key : ∀ m, (∀ p ∈ l.drop m, p.1 ≠ k) → (∀ p ∈ l, p.1 ≠ k → p ∈ l.take (place l k) ∨ p ∈ l.drop m) → (f ∈ l.take (place l k) ++ (k, v) :: l.drop m ↔ f = (k, v) ∨ f ∈ l ∧ f.1 ≠ k) := fun m h1 h2 => by
    rw [List.mem_append, List.mem_cons]
    constructor
    · rintro (h | h | h)
      · exact .inr ⟨List.mem_of_mem_take h, klt_ne (take_lt hr f h)⟩
      · exact .inl h
      · exact .inr ⟨List.mem_of_mem_drop h, h1 f h⟩
    · rintro (h | ⟨h, hn⟩)
      · exact .inr (.inl h)
      · rcases h2 f h hn with h | h
        · exact .inl h
        · exact .inr (.inr h)
  have hs : ∀ p ∈ l, p ∈ l.take (place l k) ∨ p ∈ l.drop (place l k) := fun p hp => by
    have : p ∈ l.take (place l k) ++ l.drop (place l k) := by rwa [List.take_append_drop]
    exact List.mem_append.1 this
  unfold putM
  split
  · rename_i h
    obtain ⟨u, hu⟩ := (there_iff hr k).1 h
    have hlt := (List.getElem?_eq_some_iff.1 hu).1
    have hd : l.drop (place l k) = (k, u) :: l.drop (place l k + 1) := by
      rw [List.drop_eq_getElem_cons hlt]
      congr 1
      exact (List.getElem?_eq_some_iff.1 hu).2
    refine key _ (fun p hp e => ?_) (fun p hp hn => ?_)
    · obtain ⟨j, hj⟩ := List.getElem?_of_mem hp
      rw [List.getElem?_drop] at hj
      have := rise_lt hr hu hj (by omega)
      rw [e] at this
      exact kirr k this
    · rcases hs p hp with h | h
      · exact .inl h
      · rw [hd] at h
        rcases List.mem_cons.1 h with h | h
        · exact absurd (by rw [h]) hn
        · exact .inr h
  · rename_i h
    refine key _ (fun p hp => ?_) (fun p hp _ => hs p hp)
    obtain ⟨j, hj⟩ := List.getElem?_of_mem hp
    rw [List.getElem?_drop] at hj
    exact not_there (by simpa using h) hj
theorem look_put {l : List (Key × P)} (hr : Rise l) (k : Key) (v : P) (x : Key) : lookM (putM l k v) x = if x = k then some v else lookM l x := by
  by_cases h : x = k
  · rw [if_pos h, h]
    exact (look_some (putM_rise hr k v)).2 ((mem_put hr k v _).2 (.inl rfl))
  · rw [if_neg h]
    cases e : lookM l x with
    | some u =>
      refine (look_some (putM_rise hr k v)).2 ((mem_put hr k v _).2 (.inr ⟨(look_some hr).1 e, h⟩))
    | none =>
      cases e2 : lookM (putM l k v) x with
      | none => rfl
      | some u =>
        rcases (mem_put hr k v _).1 ((look_some (putM_rise hr k v)).1 e2) with h2 | ⟨h2, _⟩
        · exact absurd (congrArg (·.1) h2) h
        · rw [(look_some hr).2 h2] at e
          cases e
theorem rise_ext {l l' : List (Key × P)} (hr : Rise l) (hr' : Rise l') (h : ∀ k, lookM l k = lookM l' k) : l = l' := by
  have hm : ∀ p, p ∈ l ↔ p ∈ l' := fun p => by
    obtain ⟨k, v⟩ := p
    rw [← look_some hr, ← look_some hr', h k]
  clear h
  induction l generalizing l' with
  | nil =>
    cases l' with
    | nil => rfl
    | cons q l' => exact absurd ((hm q).2 (List.mem_cons_self ..)) (List.not_mem_nil)
  | cons p l ih =>
    cases l' with
    | nil => exact absurd ((hm p).1 (List.mem_cons_self ..)) (List.not_mem_nil)
    | cons q l' =>
      have h1 := List.pairwise_cons.1 hr
      have h2 := List.pairwise_cons.1 hr'
      have e : p = q := by
        rcases List.mem_cons.1 ((hm p).1 (List.mem_cons_self ..)) with e | e
        · exact e
        · rcases List.mem_cons.1 ((hm q).2 (List.mem_cons_self ..)) with e' | e'
          · exact e'.symm
          · exact absurd (ktrans (h1.1 q e') (h2.1 p e)) (kirr _)
      subst e
      congr 1
      refine ih h1.2 h2.2 (fun x => ⟨fun hx => ?_, fun hx => ?_⟩)
      · rcases List.mem_cons.1 ((hm x).1 (List.mem_cons_of_mem _ hx)) with e | e
        · exact absurd (h1.1 x hx) (by rw [e]; exact kirr _)
        · exact e
      · rcases List.mem_cons.1 ((hm x).2 (List.mem_cons_of_mem _ hx)) with e | e
        · exact absurd (h2.1 x hx) (by rw [e]; exact kirr _)
        · exact e
end
end
section
set_option linter.unusedVariables false
def pval (b : Nat) : List Nat → Nat
  | [] => 0
  | x :: l => x + b * pval b l
def Below_ (b : Nat) (l : List Nat) : Prop := ∀ x ∈ l, x < b
def Tidy (l : List Nat) : Prop := l.getLast? ≠ some 0
theorem pval_append (b : Nat) : ∀ (l k : List Nat), pval b (l ++ k) = pval b l + b ^ l.length * pval b k
  | [], k => by simp [pval]
  | x :: l, k => by
    have := pval_append b l k
    simp only [List.cons_append, pval, this, List.length_cons, Nat.pow_succ, Nat.mul_add, Nat.add_assoc]
    congr 2
    rw [Nat.mul_comm (b ^ l.length) b, Nat.mul_assoc]
theorem pval_snoc (b : Nat) (l : List Nat) (x : Nat) : pval b (l ++ [x]) = pval b l + b ^ l.length * x := by
  rw [pval_append]
  simp [pval]
theorem pval_zeros (b : Nat) (n : Nat) : pval b (List.replicate n 0) = 0 := by
  induction n with
  | zero => rfl
  | succ n ih => simp [List.replicate_succ, pval, ih]
theorem pval_lt {b : Nat} : ∀ {l : List Nat}, Below_ b l → pval b l < b ^ l.length
  | [], _ => by simp [pval]
  | x :: l, h => by
    have h1 := h x (by simp)
    have h2 := pval_lt (l := l) (fun y hy => h y (by simp [hy]))
    simp only [pval, List.length_cons, Nat.pow_succ]
    have h3 : b * (pval b l + 1) ≤ b * b ^ l.length := Nat.mul_le_mul_left _ h2
    rw [Nat.mul_add] at h3
    rw [Nat.mul_comm (b ^ l.length) b]
    omega
theorem pval_ge {b : Nat} {l : List Nat} (hb : 0 < b) (ht : Tidy l) (hl : l ≠ []) : b ^ (l.length - 1) ≤ pval b l := by
  rcases List.eq_nil_or_concat l with rfl | ⟨k, x, rfl⟩
  · exact absurd rfl hl
  · rw [List.concat_eq_append] at *
    have hx : x ≠ 0 := by
      rintro rfl
      exact ht (by simp)
    rw [pval_snoc]
    have : b ^ k.length * 1 ≤ b ^ k.length * x := Nat.mul_le_mul_left _ (by omega)
    simp
    omega
theorem Below_.snoc {b : Nat} {l : List Nat} {x : Nat} (h : Below_ b l) (hx : x < b) : Below_ b (l ++ [x]) := by
  intro y hy
  rcases List.mem_append.1 hy with hy | hy
  · exact h y hy
  · simp at hy
    omega
theorem Below_.take {b : Nat} {l : List Nat} (h : Below_ b l) (n : Nat) : Below_ b (l.take n) := fun x hx => h x (List.mem_of_mem_take hx)
theorem Below_.nil (b : Nat) : Below_ b [] := fun x hx => by simp at hx
theorem tidy_nil : Tidy [] := by simp [Tidy]
def tidied (l : List Nat) : List Nat := (l.reverse.dropWhile (· == 0)).reverse
theorem tidied_snoc0 (l : List Nat) : tidied (l ++ [0]) = tidied l := by simp [tidied]
theorem tidied_snoc (l : List Nat) {x : Nat} (h : x ≠ 0) : tidied (l ++ [x]) = l ++ [x] := by simp [tidied, h]
theorem tidied_nil : tidied [] = [] := rfl
theorem tidied_tidy (l : List Nat) : Tidy (tidied l) := by
  unfold Tidy tidied
  rw [List.getLast?_reverse]
  intro h
  have := List.head?_dropWhile_not (fun x => x == 0) l.reverse
  rw [h] at this
  simp at this
theorem tidied_of_tidy {l : List Nat} (h : Tidy l) : tidied l = l := by
  rcases List.eq_nil_or_concat l with rfl | ⟨k, x, rfl⟩
  · rfl
  · rw [List.concat_eq_append] at *
    exact tidied_snoc _ (by
      rintro rfl
      exact h (by simp))
theorem tidied_ind {p : List Nat → Prop} (h0 : ∀ k, p k → p (k ++ [0])) (h1 : p []) (h2 : ∀ k x, x ≠ 0 → p (k ++ [x])) (l : List Nat) : p l := by
  have : ∀ n (l : List Nat), l.length = n → p l := by
    intro n
    induction n with
    | zero => intro l hl; rw [List.length_eq_zero_iff.1 hl]; exact h1
    | succ n ih =>
      intro l hl
      rcases List.eq_nil_or_concat l with rfl | ⟨k, x, rfl⟩
      · exact h1
      · rw [List.concat_eq_append] at *
        by_cases hx : x = 0
        · subst hx
          exact h0 k (ih k (by simpa using hl))
        · exact h2 k x hx
  exact this _ l rfl
theorem tidied_val (b : Nat) (l : List Nat) : pval b (tidied l) = pval b l := by
  induction l using tidied_ind with
  | h0 k ih => rw [tidied_snoc0, ih, pval_snoc]; simp
  | h1 => rfl
  | h2 k x hx => rw [tidied_snoc k hx]
theorem tidied_prefix (l : List Nat) : ∃ n, n ≤ l.length ∧ tidied l = l.take n := by
  induction l using tidied_ind with
  | h0 k ih =>
    obtain ⟨n, h1, h2⟩ := ih
    exact ⟨n, by simp; omega, by rw [tidied_snoc0, h2, List.take_append_of_le_length h1]⟩
  | h1 => exact ⟨0, Nat.le_refl _, rfl⟩
  | h2 k x hx => exact ⟨(k ++ [x]).length, Nat.le_refl _, by rw [tidied_snoc k hx, List.take_of_length_le (Nat.le_refl _)]⟩
theorem tidied_below {b : Nat} {l : List Nat} (h : Below_ b l) : Below_ b (tidied l) := by
  obtain ⟨n, _, e⟩ := tidied_prefix l
  rw [e]
  exact h.take n
theorem tidied_len (l : List Nat) : (tidied l).length ≤ l.length := by
  obtain ⟨n, h, e⟩ := tidied_prefix l
  rw [e]
  simp
  omega
def digs (n : Nat) : List Nat := if n = 0 then [] else n % 10 :: digs (n / 10)
decreasing_by omega
theorem digs_zero : digs 0 = [] := by unfold digs; simp
theorem digs_pos {n : Nat} (h : n ≠ 0) : digs n = n % 10 :: digs (n / 10) := by rw [digs]; simp [h]
theorem tidy_tail {x : Nat} {l : List Nat} (h : Tidy (x :: l)) : Tidy l := by
  cases l with
  | nil => exact tidy_nil
  | cons y l => simpa [Tidy] using h
theorem tidy_zero {l : List Nat} (ht : Tidy l) {b : Nat} (hb : 0 < b) (h : pval b l = 0) : l = [] := by
  rcases Decidable.em (l = []) with e | e
  · exact e
  · have h1 := pval_ge hb ht e
    have h2 : 0 < b ^ (l.length - 1) := Nat.pow_pos hb
    omega
theorem digs_eq : ∀ {l : List Nat}, Below_ 10 l → Tidy l → l = digs (pval 10 l)
  | [], _, _ => by simp [pval, digs_zero]
  | x :: l, h, ht => by
    have h1 := h x (by simp)
    have ih := digs_eq (l := l) (fun y hy => h y (by simp [hy])) (tidy_tail ht)
    have hne : pval 10 (x :: l) ≠ 0 := fun e => by
      have := tidy_zero ht (by omega) e
      cases this
    rw [digs_pos hne]
    simp only [pval] at *
    have e1 : (x + 10 * pval 10 l) % 10 = x := by omega
    have e2 : (x + 10 * pval 10 l) / 10 = pval 10 l := by omega
    rw [e1, e2, ← ih]
theorem digs_lt (n : Nat) : Below_ 10 (digs n) := by
  induction n using Nat.strongRecOn with
  | ind n ih =>
    by_cases h : n = 0
    · subst h
      rw [digs_zero]
      exact Below_.nil 10
    · rw [digs_pos h]
      intro x hx
      rcases List.mem_cons.1 hx with rfl | hx
      · omega
      · exact ih _ (by omega) x hx
theorem digs_val (n : Nat) : pval 10 (digs n) = n := by
  induction n using Nat.strongRecOn with
  | ind n ih =>
    by_cases h : n = 0
    · subst h
      rw [digs_zero]
      rfl
    · rw [digs_pos h, pval, ih _ (by omega)]
      omega
theorem digs_tidy (n : Nat) : Tidy (digs n) := by
  induction n using Nat.strongRecOn with
  | ind n ih =>
    by_cases h : n = 0
    · subst h
      rw [digs_zero]
      exact tidy_nil
    · rw [digs_pos h]
      by_cases h2 : n / 10 = 0
      · rw [h2, digs_zero]
        simp [Tidy]
        omega
      · have := ih (n / 10) (by omega)
        rw [digs_pos h2] at this ⊢
        simpa [Tidy] using this
def ztext (z : Int) : List UInt8 := if z = 0 then [48] else (if z < 0 then [45] else []) ++ ((digs z.natAbs).reverse.map fun d => UInt8.ofNat (48 + d))
end
section
set_option linter.unusedVariables false
open Go.RowKit
def dby (d : Nat) : UInt8 := UInt8.ofNat (48 + d)
theorem dby_nat {d : Nat} (h : d < 10) : (dby d).toNat = 48 + d := by
  unfold dby
  rw [UInt8.toNat_ofNat']
  omega
theorem dby_zero {d : Nat} (h : d < 10) : (dby d == 48) = (d == 0) := by
  have h1 := dby_nat h
  by_cases e : d = 0
  · subst e
    rfl
  · have e1 : (d == 0) = false := by simp [e]
    rw [e1]
    have : dby d ≠ 48 := fun e2 => by
      rw [e2] at h1
      simp at h1
      omega
    simp [this]
theorem trim_dby {l : List Nat} (h : Below_ 10 l) : Lib.trimRightB (l.map dby) 48 = (tidied l).map dby := by
  revert h
  refine tidied_ind (p := fun l => Below_ 10 l → Lib.trimRightB (l.map dby) 48 = (tidied l).map dby) ?_ ?_ ?_ l
  · intro k ih h
    rw [tidied_snoc0, ← ih (fun x hx => h x (by simp [hx]))]
    have := dby_zero (d := 0) (by omega)
    simp [Lib.trimRightB, this]
  · intro _
    rfl
  · intro k x hx h
    have := dby_zero (d := x) (h x (by simp))
    have e1 : (x == 0) = false := by simp [hx]
    rw [e1] at this
    rw [tidied_snoc k hx]
    simp [Lib.trimRightB, this]
theorem ztext_pos {g : Bool} {V : Nat} (h : V ≠ 0) : ztext (if g then -(V : Int) else (V : Int)) = (if g then [45] else []) ++ (digs V).reverse.map dby := by
  have e : (fun d => UInt8.ofNat (48 + d)) = dby := rfl
  cases g
  · have h1 : ¬ ((V : Int) < 0) := by omega
    have h2 : ¬ ((V : Int) = 0) := by omega
    simp only [ztext, Bool.false_eq_true, if_false, h1, h2, Int.natAbs_natCast, e]
  · have h1 : (-(V : Int) < 0) := by omega
    have h2 : ¬ (-(V : Int) = 0) := by omega
    simp only [ztext, if_true, if_neg h2, if_pos h1, Int.natAbs_neg, Int.natAbs_natCast, e]
abbrev encB (b : UInt8) : Value := .int .u8 (b.toNat : Int)
theorem conv_row {P : Program} {w : World} {src dst e : TypeId} {A : Option Addr} {n c : Nat} (bs : List UInt8) (hs : P.underlying src = some (.slice e)) (he : P.underlying e = some (.int .u8)) (hd : P.underlying dst = some .string)
    (hS : Sl w 1 A n c (bs.map encB)) (hn : 0 < n) : (convert src dst (.slice A n c)).run P w = .ok (.string ⟨bs.toArray⟩) w := by
  have hl : bs.length = n := by have := hS.1; simpa using this
  obtain ⟨b, off, rfl, hb, hc⟩ := hS.2.2 hn
  subst hl
  refine run_convert_bytes_back w src dst e _ c bs hs he hd fun j hj => ?_
  have := hc j (encB bs[j]) (by simp [hj])
  unfold Addr.add
  split
  · rename_i h0; subst h0; simpa using this
  · exact this
theorem bytes_pu (w : World) (e : TypeId) (s : ByteArray) : Pu w (Lib.bytesWorld w e s) :=
  ⟨rfl, rfl, rfl, by rw [Lib.bytesWorld_size]; omega, fun k hk _ => Lib.bytesWorld_at_old w e s k hk⟩
theorem bytes_holds (w : World) (e : TypeId) (l : List UInt8) : Sort.Holds encB (Lib.bytesWorld w e ⟨l.toArray⟩) w.heap.size 0 l.toArray := fun j hj => by
  have hj' : j < l.length := by simpa using hj
  refine ⟨?_, ?_⟩
  · rw [Nat.zero_add, Lib.bytesWorld_cell w e ⟨l.toArray⟩ j (by simpa [ByteArray.size] using hj')]
    simp [List.getD, hj', encB]
  · have h1 : (Lib.bytesCells w e ⟨l.toArray⟩).size ≥ l.length := by simp [Lib.bytesCells]
    simp only [World.frozen?, Lib.bytesWorld_at_new, Nat.zero_add]
    simp
    omega
theorem bytes_run {P : Program} (w : World) {src dst e : TypeId} (l : List UInt8) (hs : P.underlying src = some .string) (hd : P.underlying dst = some (.slice e)) (he : P.underlying e = some (.int .u8)) :
    ∃ c W, (convert src dst (.string ⟨l.toArray⟩)).run P w = .ok (.slice (some ⟨w.heap.size, 0, none⟩) l.length c) W ∧ l.length ≤ c ∧ W = Lib.bytesWorld w e ⟨l.toArray⟩ := by
  have h := Lib.run_convert_string_bytes (P := P) w src dst e ⟨l.toArray⟩ hs hd he
  have e0 : (⟨l.toArray⟩ : ByteArray).size = l.length := by simp [ByteArray.size]
  rw [e0] at h
  exact ⟨_, _, h, grownCap_ge _ _ _ _, rfl⟩
theorem str_snoc (l k : List UInt8) : (⟨l.toArray⟩ : ByteArray) ++ (⟨k.toArray⟩ : ByteArray) = ⟨(l ++ k).toArray⟩ := by
  apply ByteArray.ext
  simp
abbrev dbs (l : List Nat) : List Value := l.map fun d : Nat => Value.int .u8 ((48 + d : Nat) : Int)
theorem dbs_enc {l : List Nat} (h : Below_ 10 l) : dbs l = (l.map dby).map encB := by
  rw [List.map_map]
  refine List.map_congr_left fun d hd => ?_
  show Value.int .u8 _ = Value.int .u8 _
  rw [dby_nat (h d hd)]
theorem own_ne {w : World} {base k n : Nat} {e t : TypeId} {v : Value} {xs : List Value} {b : Nat} {cs : Array Value} (h : w.ownsRow base e k v n xs) (hb : Blk w b t cs) (hne : t ≠ e) : v.ownBlock ≠ some b := by
  rcases h.2 with ⟨rfl, _⟩ | ⟨g, cap, cur, rfl, _, hg, _⟩
  · intro e0
    cases e0
  · intro e0
    injection e0 with e0
    have e1 : g = b := e0
    subst e1
    unfold Blk at hb
    rw [hg] at hb
    injection hb with hb
    injection hb with _ ht
    exact hne ht.symm
theorem rev_sl {w w1 : World} {e : TypeId} {l : List UInt8} {n : Nat} (c : Nat) (h : w1 = Sort.putRow encB (Sort.ahead (Lib.bytesWorld w e ⟨l.toArray⟩) n) w.heap.size 0 l.reverse.toArray) (hc : l.length ≤ c) :
    Sl w1 1 (some ⟨w.heap.size, 0, none⟩) l.length c (l.reverse.map encB) ∧ Pu w w1 := by
  subst h
  have h0 := Sort.holds_ahead encB _ n w.heap.size 0 _ (bytes_holds w e l)
  refine ⟨⟨by simp, hc, fun hn => ⟨_, 0, rfl, ?_, fun j u hu => ?_⟩⟩, ?_⟩
  · rw [Sort.size_putRow, Sort.heap_ahead, Lib.bytesWorld_size]
    omega
  · have hj : j < l.length := by
      have := (List.getElem?_eq_some_iff.1 hu).1
      simpa using this
    rw [Sort.cell?_putRow encB _ w.heap.size 0 l.toArray l.reverse.toArray h0 (by simp) j (by simpa using hj)]
    rw [← hu]
    simp [hj]
  · have hp := bytes_pu w e ⟨l.toArray⟩
    refine ⟨hp.os, hp.tape, hp.output, by rw [Sort.size_putRow]; exact hp.size, fun k hk hs => ?_⟩
    rw [← hp.block k hk hs]
    unfold Sort.putRow Sort.mapBlock
    have h1 : w.heap.size ≠ k := by omega
    simp [Array.getElem?_modify, h1, Sort.ahead]
end
section
set_option linter.unusedVariables false
theorem pval_set {b : Nat} : ∀ {l : List Nat} {j x : Nat} (y : Nat), l[j]? = some x → pval b (l.set j y) + b ^ j * x = pval b l + b ^ j * y
  | [], j, x, y, h => by simp at h
  | a :: l, 0, x, y, h => by
    simp at h
    subst h
    simp [pval]
    omega
  | a :: l, j + 1, x, y, h => by
    have ih := pval_set (b := b) (l := l) (j := j) y (by simpa using h)
    have := congrArg (b * ·) ih
    simp only [Nat.mul_add] at this
    simp only [List.set_cons_succ, pval, Nat.pow_succ]
    rw [Nat.mul_comm (b ^ j) b, Nat.mul_assoc, Nat.mul_assoc]
    omega
theorem Below_.set {b : Nat} {l : List Nat} {j y : Nat} (h : Below_ b l) (hy : y < b) : Below_ b (l.set j y) := by
  intro x hx
  rcases List.mem_or_eq_of_mem_set hx with h1 | h1
  · exact h x h1
  · rw [h1]
    exact hy
theorem Below_.append {b : Nat} {l k : List Nat} (h : Below_ b l) (g : Below_ b k) : Below_ b (l ++ k) := by
  intro x hx
  rcases List.mem_append.1 hx with hx | hx
  · exact h x hx
  · exact g x hx
theorem Below_.drop {b : Nat} {l : List Nat} (h : Below_ b l) (n : Nat) : Below_ b (l.drop n) := fun x hx => h x (List.mem_of_mem_drop hx)
theorem Below_.zeros {b : Nat} (hb : 0 < b) (n : Nat) : Below_ b (List.replicate n 0) := by
  intro x hx
  rw [List.eq_of_mem_replicate hx]
  exact hb
theorem pval_cut (b : Nat) (l : List Nat) (n : Nat) (h : n ≤ l.length) : pval b l = pval b (l.take n) + b ^ n * pval b (l.drop n) := by
  conv => lhs; rw [← List.take_append_drop n l]
  rw [pval_append, List.length_take, Nat.min_eq_left h]
theorem pval_take_succ {b : Nat} {l : List Nat} {j x : Nat} (h : l[j]? = some x) : pval b (l.take (j + 1)) = pval b (l.take j) + b ^ j * x := by
  have hj := (List.getElem?_eq_some_iff.1 h).1
  rw [List.take_add_one, h]
  show pval b (l.take j ++ [x]) = _
  rw [pval_snoc, List.length_take, Nat.min_eq_left (by omega)]
theorem pval_drop_at {b : Nat} {l : List Nat} {j x : Nat} (h : l[j]? = some x) : pval b (l.drop j) = x + b * pval b (l.drop (j + 1)) := by
  have hj := (List.getElem?_eq_some_iff.1 h).1
  rw [List.drop_eq_getElem_cons hj]
  have e : l[j] = x := by rw [List.getElem?_eq_getElem hj] at h; injection h
  rw [e]
  rfl
theorem mul_fits {x y c o : Nat} (hx : x < 4294967296) (hy : y < 4294967296) (hc : c < 4294967296) (ho : o < 4294967296) : x * y + o + c < 18446744073709551616 := by
  have := Nat.mul_le_mul (show x ≤ 4294967295 by omega) (show y ≤ 4294967295 by omega)
  omega
theorem mul_step {a a' P c q r old xy T : Nat} (hs : a' + P * old = a + P * r) (e : 4294967296 * q + r = c + (xy + old)) (inv : a + P * c = T) : a' + P * 4294967296 * q = T + P * xy := by
  have h1 : P * (4294967296 * q + r) = P * (c + (xy + old)) := by rw [e]
  rw [Nat.mul_add, Nat.mul_add, Nat.mul_add, ← Nat.mul_assoc] at h1
  omega
theorem mul_row {i k x y p : Nat} : 4294967296 ^ i * (x * p) + 4294967296 ^ (i + k) * (x * y) = 4294967296 ^ i * (x * (p + 4294967296 ^ k * y)) := by
  rw [Nat.pow_add, Nat.mul_add x, Nat.mul_add (4294967296 ^ i), Nat.mul_assoc]
  congr 1
  congr 1
  rw [Nat.mul_left_comm]
theorem scale_more {m w d : Nat} (hm : m ≤ d) (hw : w < 4294967296) : (m + w * d) / 4294967296 ≤ d := by
  have h1 : w * d ≤ 4294967295 * d := Nat.mul_le_mul_right _ (by omega)
  omega
theorem scale_step {s p m w d q r t : Nat} (inv : s + p * m = t) (e : 4294967296 * q + r = m + w * d) : s + p * r + p * 4294967296 * q = t + p * (w * d) := by
  have h1 : p * (4294967296 * q + r) = p * (m + w * d) := by rw [e]
  rw [Nat.mul_add, Nat.mul_add, ← Nat.mul_assoc] at h1
  omega
theorem take_step {n o y p q c l w ci low oi ni l' : Nat} (inv : n + q * y = o + p * (c + l)) (e1 : 4294967296 * ci + low = c + w * q) (e2 : ni + low + l = oi + 4294967296 * l') :
    n + p * ni + q * (y + p * w) = o + p * oi + p * 4294967296 * (ci + l') := by
  have h1 : p * (4294967296 * ci + low) = p * (c + w * q) := by rw [e1]
  have h2 : p * (ni + low + l) = p * (oi + 4294967296 * l') := by rw [e2]
  simp only [Nat.mul_add, ← Nat.mul_assoc] at h1 h2 inv ⊢
  have h3 : q * p * w = p * w * q := by rw [Nat.mul_comm q p, Nat.mul_assoc, Nat.mul_comm q w, ← Nat.mul_assoc]
  rw [h3]
  omega
theorem guess_good {S Y U V P q Q : Nat} (hP : 0 < P) (hYV : V * P ≤ Y) (hYV2 : Y < (V + 1) * P) (hU : U * P ≤ S) (hU2 : S < (U + 1) * P) (hV : 4294967296 ≤ V) (hq : q < 4294967296) (h1 : q * V ≤ U) (h2 : q = 4294967295 ∨ U < (q + 1) * V) (hS : S < 4294967296 * Y) :
    (q - 1) * Y ≤ S ∧ S < (q + 1) * Y := by
  constructor
  · rcases Nat.eq_zero_or_pos q with rfl | hq0
    · simp
    · have h3 : (q - 1) * (V + 1) ≤ U := by
        obtain ⟨k, rfl⟩ : ∃ k, q = k + 1 := ⟨q - 1, by omega⟩
        rw [Nat.add_sub_cancel, Nat.mul_add, Nat.mul_one]
        rw [Nat.add_mul, Nat.one_mul] at h1
        omega
      have h4 : (q - 1) * Y ≤ (q - 1) * ((V + 1) * P) := Nat.mul_le_mul_left _ (Nat.le_of_lt hYV2)
      rw [← Nat.mul_assoc] at h4
      have h5 : (q - 1) * (V + 1) * P ≤ U * P := Nat.mul_le_mul_right _ h3
      omega
  · rcases h2 with rfl | h2
    · exact hS
    · have h3 : (U + 1) * P ≤ (q + 1) * V * P := Nat.mul_le_mul_right _ h2
      rw [Nat.mul_assoc] at h3
      have h4 : (q + 1) * (V * P) ≤ (q + 1) * Y := Nat.mul_le_mul_left _ hYV
      omega
theorem guess_round {q top r U next low V U3 : Nat} (hV : V = top * 4294967296 + next) (hU3 : U3 = U * 4294967296 + low) (inv : q * top + r = U) : (q * next ≤ r * 4294967296 + low ↔ q * V ≤ U3) := by
  subst hV hU3 inv
  rw [Nat.mul_add, Nat.add_mul, Nat.mul_assoc]
  omega
theorem guess_start {U top next low q V U3 : Nat} (hV : V = top * 4294967296 + next) (hU3 : U3 = U * 4294967296 + low) (hl : low < 4294967296) (h : U < (q + 1) * top) : U3 < (q + 1) * V := by
  subst hV hU3
  rw [Nat.mul_add, ← Nat.mul_assoc]
  have : (U + 1) * 4294967296 ≤ (q + 1) * top * 4294967296 := Nat.mul_le_mul_right _ h
  omega
theorem took {S Y q n b M : Nat} (h : n + q * Y = S + M * b) (hb : b ≤ 1) (hn : n < M) (hSM : S < M) (h1 : (q - 1) * Y ≤ S) (h2 : S < (q + 1) * Y) (hY : 0 < Y) :
    (b = 0 → q = S / Y ∧ n = S % Y) ∧ (b = 1 → 0 < q ∧ q - 1 = S / Y ∧ n + Y = S % Y + M) := by
  have hdm := Nat.div_add_mod S Y
  have hml := Nat.mod_lt S hY
  constructor
  · rintro rfl
    have e : q = S / Y := by
      refine Nat.le_antisymm ((Nat.le_div_iff_mul_le hY).2 (by omega)) ?_
      have := (Nat.div_lt_iff_lt_mul hY).2 h2
      omega
    refine ⟨e, ?_⟩
    rw [Nat.mul_comm, ← e] at hdm
    omega
  · rintro rfl
    have hq0 : 0 < q := by
      rcases Nat.eq_zero_or_pos q with e | e
      · subst e
        omega
      · exact e
    obtain ⟨k, rfl⟩ : ∃ k, q = k + 1 := ⟨q - 1, by omega⟩
    rw [Nat.add_sub_cancel] at h1 ⊢
    rw [Nat.add_mul, Nat.one_mul] at h
    have e : k = S / Y := by
      refine Nat.le_antisymm ((Nat.le_div_iff_mul_le hY).2 h1) ?_
      have h3 : S < (k + 1) * Y := by rw [Nat.add_mul]; omega
      have := (Nat.div_lt_iff_lt_mul hY).2 h3
      omega
    refine ⟨by omega, e, ?_⟩
    rw [Nat.mul_comm, ← e] at hdm
    omega
theorem back_step {n x R : Nat} (hn : n ≤ 32) (hx : x < 4294967296) : (x + 4294967296 * R) / 2 ^ n = (R % 4294967296 * 4294967296 + x) / 2 ^ n % 4294967296 + 4294967296 * (R / 2 ^ n) := by
  obtain ⟨D, hD⟩ : ∃ D, D = 2 ^ n := ⟨_, rfl⟩
  have hD0 : 0 < D := by rw [hD]; exact Nat.pow_pos (by omega)
  have hdvd : D ∣ 4294967296 := by
    rw [hD, show (4294967296 : Nat) = 2 ^ 32 from rfl]
    exact Nat.pow_dvd_pow 2 hn
  rw [← hD]
  have h1 := Nat.div_add_mod R D
  have h2 := Nat.div_add_mod (R % 4294967296) D
  rw [Nat.mod_mod_of_dvd R hdvd] at h2
  have hs := Nat.mod_lt R hD0
  generalize R % D = s at *
  generalize R / D = q at *
  generalize R % 4294967296 / D = q' at *
  have e1 : x + 4294967296 * R = (s * 4294967296 + x) + D * (4294967296 * q) := by
    rw [← h1, Nat.mul_add, Nat.mul_left_comm]
    omega
  have e2 : R % 4294967296 * 4294967296 + x = (s * 4294967296 + x) + D * (q' * 4294967296) := by
    rw [← h2, Nat.add_mul, Nat.mul_assoc]
    omega
  rw [e1, e2, Nat.add_mul_div_left _ _ hD0, Nat.add_mul_div_left _ _ hD0, Nat.add_mul_mod_self_right]
  have hlt : (s * 4294967296 + x) / D < 4294967296 := by
    rw [Nat.div_lt_iff_lt_mul hD0]
    have : (s + 1) * 4294967296 ≤ D * 4294967296 := Nat.mul_le_mul_right _ hs
    omega
  rw [Nat.mod_eq_of_lt hlt]
theorem shift_lt {n w c : Nat} (hn : n ≤ 32) (hc : c < 2 ^ n) (hw : w < 4294967296) : c + w * 2 ^ n < 4294967296 * 2 ^ n := by
  have : (w + 1) * 2 ^ n ≤ 4294967296 * 2 ^ n := Nat.mul_le_mul_right _ hw
  rw [Nat.add_mul] at this
  omega
end
section
set_option linter.unusedVariables false
/- Index into a string whose bytes are a list. No program in sight. -/
theorem bytes_get (s : List UInt8) (j : Nat) : (⟨s.toArray⟩ : ByteArray)[j]? = s[j]? := by
  rcases Nat.lt_or_ge j s.length with h | h
  · rw [List.getElem?_eq_getElem h, getElem?_pos (⟨s.toArray⟩ : ByteArray) j (by simpa [ByteArray.size] using h)]
    rfl
  · rw [List.getElem?_eq_none h, getElem?_neg (⟨s.toArray⟩ : ByteArray) j (by simp [ByteArray.size]; omega)]
theorem index_str {P : Program} {t : TypeId} {k : IntKind} (s : List UInt8) (j : Nat) (c : UInt8) (h : s[j]? = some c) (ht : P.underlying t = some .string) (W : World) : (Instr.index t (.string ⟨s.toArray⟩) (.int k (j : Int))).run P W = .ok (.int .u8 (c.toNat : Int)) W := by
  have hb := bytes_get s j
  rw [h] at hb
  unfold Instr.index
  simp only [asIntOf, Sem.run_bind, Sem.run_pure, Result.andThen_ok, run_underlying ht]
  have h0 : (0 : Int) ≤ (j : Int) := by omega
  simp [h0, hb]
/- zed: what a text says as a number. Plain lists of bytes, no program in sight. -/
def bdig (b : UInt8) : Nat := b.toNat - 48
def nval (l : List UInt8) : Nat := pval 10 (l.reverse.map bdig)
theorem nval_nil : nval [] = 0 := rfl
theorem nval_snoc (l : List UInt8) (b : UInt8) : nval (l ++ [b]) = nval l * 10 + bdig b := by
  unfold nval
  simp only [List.reverse_append, List.reverse_cons, List.reverse_nil, List.nil_append, List.cons_append, List.map_cons, pval]
  omega
theorem nval_append (l k : List UInt8) : nval (l ++ k) = nval l * 10 ^ k.length + nval k := by
  unfold nval
  rw [List.reverse_append, List.map_append, pval_append]
  simp only [List.length_map, List.length_reverse]
  rw [Nat.mul_comm (10 ^ k.length)]
  omega
def isDig (b : UInt8) : Bool := 48 ≤ b.toNat && b.toNat ≤ 57
theorem isDig_iff (b : UInt8) : isDig b = true ↔ 48 ≤ b.toNat ∧ b.toNat ≤ 57 := by
  unfold isDig
  simp
def pneg (l : List UInt8) : Bool := l.head? == some 45
def prest (l : List UInt8) : List UInt8 := if pneg l then l.tail else l
def goodDigs (g : Bool) (r : List UInt8) : Bool := !r.isEmpty && r.all isDig && !(r.head? == some 48 && (decide (1 < r.length) || g))
def pcode (l : List UInt8) : Nat := if 60 < (prest l).length then 11 else if goodDigs (pneg l) (prest l) then 0 else 10
def pnum (l : List UInt8) : Int := if pneg l then -(nval (prest l) : Int) else (nval (prest l) : Int)
theorem all_append_take {l : List UInt8} (h : l.all isDig = true) (n : Nat) : (l.take n).all isDig = true := by
  rw [List.all_eq_true] at h ⊢
  exact fun x hx => h x (List.mem_of_mem_take hx)
theorem bdig_lt {b : UInt8} (h : isDig b = true) : bdig b < 10 := by
  have := (isDig_iff b).1 h
  unfold bdig
  omega
theorem dby_bdig {b : UInt8} (h : isDig b = true) : dby (bdig b) = b := by
  have h1 := (isDig_iff b).1 h
  unfold dby bdig
  rw [show 48 + (b.toNat - 48) = b.toNat by omega]
  exact UInt8.ofNat_toNat
theorem digs_below {l : List UInt8} (h : l.all isDig = true) : Below_ 10 (l.reverse.map bdig) := by
  intro x hx
  rw [List.all_eq_true] at h
  simp only [List.mem_map, List.mem_reverse] at hx
  obtain ⟨b, hb, rfl⟩ := hx
  exact bdig_lt (h b hb)
theorem nval_lt {l : List UInt8} (h : l.all isDig = true) : nval l < 10 ^ l.length := by
  have := pval_lt (digs_below h)
  simpa [nval] using this
theorem digs_back {l : List UInt8} (h : l.all isDig = true) (h0 : l.head? ≠ some 48) : (digs (nval l)).reverse.map dby = l := by
  have hT : Tidy (l.reverse.map bdig) := by
    unfold Tidy
    rw [List.getLast?_map, List.getLast?_reverse]
    intro e
    cases hh : l.head? with
    | none => rw [hh] at e; cases e
    | some b =>
      rw [hh] at e
      injection e with e
      have hb : isDig b = true := by
        rw [List.all_eq_true] at h
        exact h b (List.mem_of_mem_head? (by rw [hh]; rfl))
      have := dby_bdig hb
      rw [e] at this
      rw [← this] at hh
      exact h0 hh
  have e := digs_eq (digs_below h) hT
  unfold nval
  rw [← e, ← List.map_reverse, List.reverse_reverse, List.map_map]
  conv => rhs; rw [← List.map_id l]
  refine List.map_congr_left fun b hb => ?_
  rw [List.all_eq_true] at h
  exact dby_bdig (h b hb)
theorem text_back {l : List UInt8} (h : pcode l = 0) : ztext (pnum l) = l := by
  unfold pcode at h
  split at h
  · cases h
  · split at h
    · rename_i hg
      unfold goodDigs at hg
      simp only [Bool.and_eq_true, Bool.not_eq_true'] at hg
      obtain ⟨⟨he, ha⟩, hz⟩ := hg
      have hne : prest l ≠ [] := fun e => by rw [e] at he; simp at he
      by_cases h0 : (prest l).head? = some 48
      · rw [h0] at hz
        simp only [beq_self_eq_true, Bool.true_and, Bool.or_eq_false_iff, decide_eq_false_iff_not] at hz
        have hr : prest l = [48] := by
          cases hp : prest l with
          | nil => exact absurd hp hne
          | cons a t =>
            rw [hp] at h0 hz
            simp at h0 hz
            rw [h0, hz.1]
        have hl : l = [48] := by
          have := hr
          unfold prest at this
          rw [hz.2] at this
          simpa using this
        unfold pnum
        rw [hz.2, hr, hl]
        rfl
      · have hd := digs_back ha h0
        have hv : nval (prest l) ≠ 0 := fun e => by
          rw [e, digs_zero] at hd
          exact hne hd.symm
        unfold pnum
        rw [ztext_pos hv, hd]
        unfold prest
        cases hp : pneg l
        · rfl
        · unfold pneg at hp
          cases l with
          | nil => simp at hp
          | cons a t => simp at hp; simp [hp]
    · cases h
theorem pnum_sign {l : List UInt8} : (pnum l).natAbs = nval (prest l) := by
  unfold pnum
  split <;> simp
theorem dropWhile_nil {p : UInt8 → Bool} : ∀ {l : List UInt8}, l.dropWhile p = [] ↔ l.all p = true
  | [] => by simp
  | a :: l => by
    rw [List.dropWhile_cons]
    cases h : p a
    · simp [h]
    · simp only [if_true, List.all_cons, h, Bool.true_and]
      exact dropWhile_nil
theorem trimS_nil (l cs : List UInt8) : Lib.trimS l cs = [] ↔ l.all (cs.contains ·) = true := by
  unfold Lib.trimS Lib.trimLeftS Lib.trimRightS
  rw [dropWhile_nil, List.all_reverse]
  constructor
  · intro h
    have h2 : l.reverse.dropWhile (cs.contains ·) = [] := by
      cases hd : l.reverse.dropWhile (cs.contains ·) with
      | nil => rfl
      | cons a t =>
        have h1 := List.head?_dropWhile_not (cs.contains ·) l.reverse
        rw [hd] at h1 h
        simp at h1 h
        exact absurd h.1 (by simpa using h1)
    rw [dropWhile_nil, List.all_reverse] at h2
    exact h2
  · intro h
    have h2 : l.reverse.dropWhile (cs.contains ·) = [] := by
      rw [dropWhile_nil, List.all_reverse]
      exact h
    rw [h2]
    rfl
theorem digits_contains (b : UInt8) : [48, 49, 50, 51, 52, 53, 54, 55, 56, 57].contains b = isDig b := by
  rw [Bool.eq_iff_iff, isDig_iff]
  simp only [List.contains_eq_mem, List.mem_cons, List.not_mem_nil, or_false, decide_eq_true_iff]
  constructor
  · rintro (rfl | rfl | rfl | rfl | rfl | rfl | rfl | rfl | rfl | rfl) <;> decide
  · intro ⟨h1, h2⟩
    have : ∀ k : UInt8, b.toNat = k.toNat → b = k := fun k h => UInt8.toNat_inj.1 h
    have hc : b.toNat = 48 ∨ b.toNat = 49 ∨ b.toNat = 50 ∨ b.toNat = 51 ∨ b.toNat = 52 ∨ b.toNat = 53 ∨ b.toNat = 54 ∨ b.toNat = 55 ∨ b.toNat = 56 ∨ b.toNat = 57 := by omega
    rcases hc with h | h | h | h | h | h | h | h | h | h
    · exact .inl (this 48 h)
    · exact .inr (.inl (this 49 h))
    · exact .inr (.inr (.inl (this 50 h)))
    · exact .inr (.inr (.inr (.inl (this 51 h))))
    · exact .inr (.inr (.inr (.inr (.inl (this 52 h)))))
    · exact .inr (.inr (.inr (.inr (.inr (.inl (this 53 h))))))
    · exact .inr (.inr (.inr (.inr (.inr (.inr (.inl (this 54 h)))))))
    · exact .inr (.inr (.inr (.inr (.inr (.inr (.inr (.inl (this 55 h))))))))
    · exact .inr (.inr (.inr (.inr (.inr (.inr (.inr (.inr (.inl (this 56 h)))))))))
    · exact .inr (.inr (.inr (.inr (.inr (.inr (.inr (.inr (.inr (this 57 h)))))))))
end
end Go.Proofs.YtckfnbckoclhpaaGreatDoor
