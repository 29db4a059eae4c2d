/- zed: rows of numbers in memory, two cells each. -/
import Derived.Test.YtckfnbckoclhpaaDoorZed3
set_option linter.unusedVariables false
namespace Go.Proofs.YtckfnbckoclhpaaDoor
open Go.RowKit

theorem eiZ : ElemI Tryd.prog 59 25 (.agg #[.bool false, .slice none 0 0]) 2 32 := ⟨Tryd.underlying59, by kernel_rfl, rfl, by decide⟩

/-- the parts of a number in memory: is it below nought; its words' slice -/
abbrev Part := Bool × Option Addr × Nat × Nat
abbrev Part.val (q : Part) : Value := .agg #[.bool q.1, .slice q.2.1 q.2.2.1 q.2.2.2]
abbrev ics (l : List Part) : List Value := l.flatMap fun q => [.bool q.1, .slice q.2.1 q.2.2.1 q.2.2.2]
theorem ics_len : ∀ (l : List Part), (ics l).length = l.length * 2
  | [] => rfl
  | p :: l => by
    have := ics_len l
    simp only [ics, List.flatMap_cons, List.length_append, List.length_cons, List.length_nil] at this ⊢
    omega
theorem ics_append (l l' : List Part) : ics (l ++ l') = ics l ++ ics l' := by simp [ics]
theorem ics_one (l : List Part) : ∀ u ∈ ics l, u.oneCell' = true := by
  intro u hu
  simp only [ics, List.mem_flatMap] at hu
  obtain ⟨p, _, hu⟩ := hu
  simp at hu
  rcases hu with rfl | rfl <;> rfl
theorem ics_get (l : List Part) : ∀ (j : Nat) (q : Part), l[j]? = some q → (ics l)[j * 2]? = some (.bool q.1) ∧ (ics l)[j * 2 + 1]? = some (.slice q.2.1 q.2.2.1 q.2.2.2) := by
  induction l with
  | nil => intro j p h; simp at h
  | cons q l ih =>
    intro j p h
    cases j with
    | zero =>
      simp at h
      subst h
      simp [ics]
    | succ j =>
      have := ih j p (by simpa using h)
      have e : (j + 1) * 2 = j * 2 + 2 := by omega
      rw [e]
      simpa [ics] using this

/-- the parts l hold the numbers zs -/
def Hold (w : World) (l : List Part) (zs : List Int) : Prop := l.length = zs.length ∧ ∀ (i : Nat) (q : Part) (z : Int), l[i]? = some q → zs[i]? = some z → ZR w q.val z
theorem Hold.nil (w : World) : Hold w [] [] := ⟨rfl, fun i q z h => by simp at h⟩
theorem Hold.pu {w w' : World} {l : List Part} {zs : List Int} (h : Hold w l zs) (p : Pu w w') : Hold w' l zs := ⟨h.1, fun i q z h1 h2 => (h.2 i q z h1 h2).pu p⟩
theorem Hold.snoc {w : World} {l : List Part} {zs : List Int} {q : Part} {z : Int} (h : Hold w l zs) (hz : ZR w q.val z) : Hold w (l ++ [q]) (zs ++ [z]) := by
  refine ⟨by simp [h.1], fun i q' z' h1 h2 => ?_⟩
  have hl := h.1
  rcases Nat.lt_trichotomy i l.length with e | e | e
  · rw [List.getElem?_append_left e] at h1
    rw [List.getElem?_append_left (by omega)] at h2
    exact h.2 i q' z' h1 h2
  · subst e
    rw [List.getElem?_append_right (Nat.le_refl _)] at h1
    rw [List.getElem?_append_right (by omega)] at h2
    simp [hl] at h1 h2
    subst h1 h2
    exact hz
  · rw [List.getElem?_eq_none (by simp; omega)] at h1
    cases h1
/-- a number's words lie in none of the blocks S -/
def Far (S : Nat → Prop) (q : Part) : Prop := 0 < q.2.2.1 → ∀ b off, q.2.1 = some ⟨b, off, none⟩ → ¬ S b
theorem ZR.far {S : Nat → Prop} {w w' : World} {q : Part} {z : Int} (h : ZR w q.val z) (hf : Fr S w w') (hs : Far S q) : ZR w' q.val z := by
  obtain ⟨neg, A, n, c, l, e, h2, h3⟩ := h
  obtain ⟨g', A', n', c'⟩ := q
  injection e with e0
  have e1 : [Value.bool g', .slice A' n' c'] = [Value.bool neg, .slice A n c] := by injection e0
  injection e1 with e1 e2
  injection e2 with e2 _
  injection e2 with eA en ec
  injection e1 with e1
  subst e1 eA en ec
  exact ⟨_, _, _, _, l, rfl, h2.fr hf (fun hn b off hA => hs hn b off hA), h3⟩
theorem ZR.lt {w : World} {q : Part} {z : Int} (h : ZR w q.val z) : Far (fun k => w.heap.size ≤ k) q := by
  obtain ⟨neg, A, n, c, l, e, h2, h3⟩ := h
  obtain ⟨g', A', n', c'⟩ := q
  injection e with e0
  have e1 : [Value.bool g', .slice A' n' c'] = [Value.bool neg, .slice A n c] := by injection e0
  injection e1 with e1 e2
  injection e2 with e2 _
  injection e2 with eA en ec
  subst eA en ec
  intro hn b off hA
  obtain ⟨b', off', hA', hlt, _⟩ := h2.2.2 hn
  dsimp at hA
  rw [hA] at hA'
  injection hA' with hA'
  injection hA' with hA'
  subst hA'
  show ¬ w.heap.size ≤ b
  omega
theorem Bey.far {k : Nat} {q : Part} (h : Bey k q.val) : Far (fun b => b < k) q := by
  intro hn b off hA
  have := h _ _ _ _ rfl b off hA
  show ¬ b < k
  omega
theorem Far.mono {S T : Nat → Prop} {q : Part} (h : Far S q) (hs : ∀ k, T k → S k) : Far T q := fun hn b off hA hT => h hn b off hA (hs b hT)

/-- a row of the call's own that holds the numbers zs, their words elsewhere -/
structure OI (w : World) (base : Nat) (A : Option Addr) (n c : Nat) (l : List Part) (zs : List Int) : Prop where
  own : w.ownsRow base 25 2 (.slice A n c) n (ics l)
  hold : Hold w l zs
  far : ∀ q ∈ l, Far (fun k => (Value.slice A n c).ownBlock = some k) q
theorem OI.len {w : World} {base : Nat} {A : Option Addr} {n c : Nat} {l : List Part} {zs : List Int} (h : OI w base A n c l zs) : l.length = n ∧ zs.length = n := by
  have h1 := h.own.1
  rw [ics_len] at h1
  have h2 := h.hold.1
  omega
theorem OI.pu {w w' : World} {base : Nat} {A : Option Addr} {n c : Nat} {l : List Part} {zs : List Int} (h : OI w base A n c l zs) (p : Pu w w') : OI w' base A n c l zs := ⟨own_pu h.own p, h.hold.pu p, h.far⟩
theorem OI.nil (w : World) (base : Nat) : OI w base none 0 0 [] [] := ⟨World.ownsRow_nil _ _ _ _, Hold.nil w, fun q h => by cases h⟩
/-- behind an append -/
theorem OI.push {w w' : World} {base g n c cap : Nat} {A : Option Addr} {l : List Part} {zs : List Int} {q : Part} {z : Int} (h : OI w base A n c l zs) (hz : ZR w q.val z) (hq : Far (fun k => (Value.slice A n c).ownBlock = some k) q)
    (ho : w'.ownsRow base 25 2 (.slice (some ⟨g, 0, none⟩) (n + 1) cap) (n + 1) (ics l ++ [.bool q.1, .slice q.2.1 q.2.2.1 q.2.2.2])) (hg : w.grownBy w' (Value.slice A n c).ownBlock) (hw : (Value.slice A n c).ownBlock = some g ∨ g = w.heap.size) :
    OI w' base (some ⟨g, 0, none⟩) (n + 1) cap (l ++ [q]) (zs ++ [z]) := by
  have hf := Fr.of_grown hg
  have e : ics (l ++ [q]) = ics l ++ [.bool q.1, .slice q.2.1 q.2.2.1 q.2.2.2] := by rw [ics_append]; rfl
  have hh : Hold w (l ++ [q]) (zs ++ [z]) := h.hold.snoc hz
  have hfar : ∀ q' ∈ l ++ [q], Far (fun k => (Value.slice A n c).ownBlock = some k) q' := fun q' hq' => by
    rcases List.mem_append.1 hq' with h1 | h1
    · exact h.far q' h1
    · rw [List.mem_singleton.1 h1]
      exact hq
  refine ⟨by rw [e]; exact ho, ⟨hh.1, fun i q' z' h1 h2 => (hh.2 i q' z' h1 h2).far hf (hfar q' (List.mem_of_getElem? h1))⟩, fun q' hq' => ?_⟩
  rcases hw with hw | hw
  · rw [hw] at hfar
    exact hfar q' hq'
  · obtain ⟨i, hi⟩ := List.mem_iff_getElem?.1 hq'
    have hil : i < (zs ++ [z]).length := by
      have := (List.getElem?_eq_some_iff.1 hi).1
      have h2 := hh.1
      omega
    have hlt := (hh.2 i q' _ hi (List.getElem?_eq_getElem hil)).lt
    intro hn b off hA hb
    have hb' : some g = some b := hb
    injection hb' with hb'
    exact hlt hn b off hA (by show w.heap.size ≤ b; omega)

section
variable {P : Program} {w : World} {ops : Array Oper} {rest : List Oper} {o : Oper} {a : Act} {Q : Exit → Act → World → Prop}
/-- 'out = append(out, x)': and where the new row lies -/
theorem wpList_pushL {t e : TypeId} {z : Value} {size bytes : Nat} (E : ElemI P t e z size bytes) (hgd : o.guard = none) (s x : Operand)
    (ho : o.op = .call { callee := .builtin .append, args := #[s, x], argTypes := #[t, t] })
    {base n c q : Nat} {A : Option Addr} {xs : List Value} (us : Array Value) (hus : us.size = size) (h1 : ∀ u ∈ us.toList, u.oneCell' = true)
    (hs : a.eval s = .slice A n c) (hx : a.eval x = .slice (some ⟨q, 0, none⟩) 1 1) (hq : w.heap.size = q)
    (hown : w.ownsRow base e size (.slice A n c) n xs) (h63 : n + 1 ≤ maxLen) (hbytes : (n + 1) * bytes ≤ 140737488355328) (hbase : base ≤ w.heap.size)
    (h : ∀ g c' w', w'.ownsRow base e size (.slice (some ⟨g, 0, none⟩) (n + 1) c') (n + 1) (xs ++ us.toList) → (w.alloc (.cells us e)).grownBy w' (Value.slice A n c).ownBlock → ((Value.slice A n c).ownBlock = some g ∨ g = w.heap.size + 1) → wpList P ops Q rest (a.put o.dst (.slice (some ⟨g, 0, none⟩) (n + 1) c')) w') :
    wpList P ops Q (o :: rest) a (w.alloc (.cells us e)) := by
  obtain ⟨i, hi, hz, hsz, hby⟩ := info_parts E.info
  refine wpList_append_lies _ hgd s x t ho base e i z size bytes E.under hi hz hsz hby E.zs E.pos _ _ _ hs (hown.alloc _) ⟨w.heap.size, 0, none⟩ 1 1 us.toList (by rw [hq]; exact hx) (by simp [hus]) (fun j u hu => ?_) h1 (by omega) h63 hbytes (by simp; omega) (w.heap.size + 1) (by simp) ?_
  · rw [add_zero_, World.cell?_alloc_new]
    simpa using hu
  · intro g cap w' ho' hg hw _
    exact h g cap w' ho' hg hw
end

/-- whatever slice that reads as the numbers zs -/
def IL (w : World) (A : Option Addr) (n c : Nat) (zs : List Int) : Prop := ∃ l, Sl w 2 A n c (ics l) ∧ Hold w l zs
theorem IL.pu {w w' : World} {A : Option Addr} {n c : Nat} {zs : List Int} (h : IL w A n c zs) (p : Pu w w') : IL w' A n c zs := by
  obtain ⟨l, h1, h2⟩ := h
  exact ⟨l, h1.pu p, h2.pu p⟩
theorem IL.len {w : World} {A : Option Addr} {n c : Nat} {zs : List Int} (h : IL w A n c zs) : zs.length = n := by
  obtain ⟨l, h1, h2⟩ := h
  have h3 := h1.1
  rw [ics_len] at h3
  have := h2.1
  omega
theorem OI.il {w : World} {base : Nat} {A : Option Addr} {n c : Nat} {l : List Part} {zs : List Int} (h : OI w base A n c l zs) : IL w A n c zs := ⟨l, Sl.of_own h.own, h.hold⟩
theorem IL.nil (w : World) (A : Option Addr) (c : Nat) : IL w A 0 c [] := ⟨[], Sl.nil _ _ _ _, Hold.nil w⟩
theorem IL.at_ {w : World} {A : Option Addr} {n c i : Nat} {zs : List Int} {z : Int} (h : IL w A n c zs) (hi : zs[i]? = some z) :
    ∃ b off g A1 n1 c1, A = some ⟨b, off, none⟩ ∧ b < w.heap.size ∧ w.cell? ⟨b, off + i * 2, none⟩ = some (.bool g) ∧ w.cell? ⟨b, off + i * 2 + 1, none⟩ = some (.slice A1 n1 c1) ∧ ZR w (.agg #[.bool g, .slice A1 n1 c1]) z := by
  have hl := h.len
  have hlt := (List.getElem?_eq_some_iff.1 hi).1
  obtain ⟨l, h1, h2⟩ := h
  have hll := h2.1
  obtain ⟨q, hq⟩ : ∃ q, l[i]? = some q := ⟨_, List.getElem?_eq_getElem (by omega)⟩
  obtain ⟨b, off, rfl, hb, hc⟩ := h1.2.2 (by omega)
  obtain ⟨c0, c1⟩ := ics_get l i q hq
  exact ⟨b, off, _, _, _, _, rfl, hb, hc _ _ c0, hc _ _ c1, h2.2 i q z hq hi⟩
end Go.Proofs.YtckfnbckoclhpaaDoor
