/- Index into a string whose bytes are a list. No program in sight. zed: what a text says as a number. Plain lists of bytes, no program in sight. -/
import Derived.WalkKit
import Derived.Laws.Entries
import Derived.Test.YtckfnbckoclhpaaDoorZStr0
import Derived.Lib.SlTrimSet
import Derived.Lib.Strings
set_option linter.unusedVariables false
namespace Go.Proofs.YtckfnbckoclhpaaDoor
/- Index into a string whose bytes are a list. No program in sight. -/
theorem bytes_get (s : List UInt8) (j : Nat) : (⟨s.toArray⟩ : ByteArray)[j]? = s[j]? := by
  rcases Nat.lt_or_ge j s.length with h | h
  · rw [List.getElem?_eq_getElem h, getElem?_pos (⟨s.toArray⟩ : ByteArray) j (by simpa [ByteArray.size] using h)]
    rfl
  · rw [List.getElem?_eq_none h, getElem?_neg (⟨s.toArray⟩ : ByteArray) j (by simp [ByteArray.size]; omega)]
theorem index_str {P : Program} {t : TypeId} {k : IntKind} (s : List UInt8) (j : Nat) (c : UInt8) (h : s[j]? = some c) (ht : P.underlying t = some .string) (W : World) : (Instr.index t (.string ⟨s.toArray⟩) (.int k (j : Int))).run P W = .ok (.int .u8 (c.toNat : Int)) W := by
  have hb := bytes_get s j
  rw [h] at hb
  unfold Instr.index
  simp only [asIntOf, Sem.run_bind, Sem.run_pure, Result.andThen_ok, run_underlying ht]
  have h0 : (0 : Int) ≤ (j : Int) := by omega
  simp [h0, hb]

/- zed: what a text says as a number. Plain lists of bytes, no program in sight. -/
/-- a byte's digit -/
def bdig (b : UInt8) : Nat := b.toNat - 48
/-- what digits are worth, the highest first -/
def nval (l : List UInt8) : Nat := pval 10 (l.reverse.map bdig)
theorem nval_nil : nval [] = 0 := rfl
theorem nval_snoc (l : List UInt8) (b : UInt8) : nval (l ++ [b]) = nval l * 10 + bdig b := by
  unfold nval
  simp only [List.reverse_append, List.reverse_cons, List.reverse_nil, List.nil_append, List.cons_append, List.map_cons, pval]
  omega
theorem nval_append (l k : List UInt8) : nval (l ++ k) = nval l * 10 ^ k.length + nval k := by
  unfold nval
  rw [List.reverse_append, List.map_append, pval_append]
  simp only [List.length_map, List.length_reverse]
  rw [Nat.mul_comm (10 ^ k.length)]
  omega
def isDig (b : UInt8) : Bool := 48 ≤ b.toNat && b.toNat ≤ 57
theorem isDig_iff (b : UInt8) : isDig b = true ↔ 48 ≤ b.toNat ∧ b.toNat ≤ 57 := by
  unfold isDig
  simp
/-- the text has a sign -/
def pneg (l : List UInt8) : Bool := l.head? == some 45
/-- the text without its sign -/
def prest (l : List UInt8) : List UInt8 := if pneg l then l.tail else l
def goodDigs (g : Bool) (r : List UInt8) : Bool := !r.isEmpty && r.all isDig && !(r.head? == some 48 && (decide (1 < r.length) || g))
/-- the error's number -/
def pcode (l : List UInt8) : Nat := if 60 < (prest l).length then 11 else if goodDigs (pneg l) (prest l) then 0 else 10
/-- the number -/
def pnum (l : List UInt8) : Int := if pneg l then -(nval (prest l) : Int) else (nval (prest l) : Int)

theorem all_append_take {l : List UInt8} (h : l.all isDig = true) (n : Nat) : (l.take n).all isDig = true := by
  rw [List.all_eq_true] at h ⊢
  exact fun x hx => h x (List.mem_of_mem_take hx)
theorem bdig_lt {b : UInt8} (h : isDig b = true) : bdig b < 10 := by
  have := (isDig_iff b).1 h
  unfold bdig
  omega
theorem dby_bdig {b : UInt8} (h : isDig b = true) : dby (bdig b) = b := by
  have h1 := (isDig_iff b).1 h
  unfold dby bdig
  rw [show 48 + (b.toNat - 48) = b.toNat by omega]
  exact UInt8.ofNat_toNat
theorem digs_below {l : List UInt8} (h : l.all isDig = true) : Below_ 10 (l.reverse.map bdig) := by
  intro x hx
  rw [List.all_eq_true] at h
  simp only [List.mem_map, List.mem_reverse] at hx
  obtain ⟨b, hb, rfl⟩ := hx
  exact bdig_lt (h b hb)
theorem nval_lt {l : List UInt8} (h : l.all isDig = true) : nval l < 10 ^ l.length := by
  have := pval_lt (digs_below h)
  simpa [nval] using this
theorem digs_back {l : List UInt8} (h : l.all isDig = true) (h0 : l.head? ≠ some 48) : (digs (nval l)).reverse.map dby = l := by
  have hT : Tidy (l.reverse.map bdig) := by
    unfold Tidy
    rw [List.getLast?_map, List.getLast?_reverse]
    intro e
    cases hh : l.head? with
    | none => rw [hh] at e; cases e
    | some b =>
      rw [hh] at e
      injection e with e
      have hb : isDig b = true := by
        rw [List.all_eq_true] at h
        exact h b (List.mem_of_mem_head? (by rw [hh]; rfl))
      have := dby_bdig hb
      rw [e] at this
      rw [← this] at hh
      exact h0 hh
  have e := digs_eq (digs_below h) hT
  unfold nval
  rw [← e, ← List.map_reverse, List.reverse_reverse, List.map_map]
  conv => rhs; rw [← List.map_id l]
  refine List.map_congr_left fun b hb => ?_
  rw [List.all_eq_true] at h
  exact dby_bdig (h b hb)
/-- the text of a text's number is itself -/
theorem text_back {l : List UInt8} (h : pcode l = 0) : ztext (pnum l) = l := by
  unfold pcode at h
  split at h
  · cases h
  · split at h
    · rename_i hg
      unfold goodDigs at hg
      simp only [Bool.and_eq_true, Bool.not_eq_true'] at hg
      obtain ⟨⟨he, ha⟩, hz⟩ := hg
      have hne : prest l ≠ [] := fun e => by rw [e] at he; simp at he
      by_cases h0 : (prest l).head? = some 48
      · rw [h0] at hz
        simp only [beq_self_eq_true, Bool.true_and, Bool.or_eq_false_iff, decide_eq_false_iff_not] at hz
        have hr : prest l = [48] := by
          cases hp : prest l with
          | nil => exact absurd hp hne
          | cons a t =>
            rw [hp] at h0 hz
            simp at h0 hz
            rw [h0, hz.1]
        have hl : l = [48] := by
          have := hr
          unfold prest at this
          rw [hz.2] at this
          simpa using this
        unfold pnum
        rw [hz.2, hr, hl]
        rfl
      · have hd := digs_back ha h0
        have hv : nval (prest l) ≠ 0 := fun e => by
          rw [e, digs_zero] at hd
          exact hne hd.symm
        unfold pnum
        rw [ztext_pos hv, hd]
        unfold prest
        cases hp : pneg l
        · rfl
        · unfold pneg at hp
          cases l with
          | nil => simp at hp
          | cons a t => simp at hp; simp [hp]
    · cases h
theorem pnum_sign {l : List UInt8} : (pnum l).natAbs = nval (prest l) := by
  unfold pnum
  split <;> simp

theorem dropWhile_nil {p : UInt8 → Bool} : ∀ {l : List UInt8}, l.dropWhile p = [] ↔ l.all p = true
  | [] => by simp
  | a :: l => by
    rw [List.dropWhile_cons]
    cases h : p a
    · simp [h]
    · simp only [if_true, List.all_cons, h, Bool.true_and]
      exact dropWhile_nil
theorem trimS_nil (l cs : List UInt8) : Lib.trimS l cs = [] ↔ l.all (cs.contains ·) = true := by
  unfold Lib.trimS Lib.trimLeftS Lib.trimRightS
  rw [dropWhile_nil, List.all_reverse]
  constructor
  · intro h
    have h2 : l.reverse.dropWhile (cs.contains ·) = [] := by
      cases hd : l.reverse.dropWhile (cs.contains ·) with
      | nil => rfl
      | cons a t =>
        have h1 := List.head?_dropWhile_not (cs.contains ·) l.reverse
        rw [hd] at h1 h
        simp at h1 h
        exact absurd h.1 (by simpa using h1)
    rw [dropWhile_nil, List.all_reverse] at h2
    exact h2
  · intro h
    have h2 : l.reverse.dropWhile (cs.contains ·) = [] := by
      rw [dropWhile_nil, List.all_reverse]
      exact h
    rw [h2]
    rfl
theorem digits_contains (b : UInt8) : [48, 49, 50, 51, 52, 53, 54, 55, 56, 57].contains b = isDig b := by
  rw [Bool.eq_iff_iff, isDig_iff]
  simp only [List.contains_eq_mem, List.mem_cons, List.not_mem_nil, or_false, decide_eq_true_iff]
  constructor
  · rintro (rfl | rfl | rfl | rfl | rfl | rfl | rfl | rfl | rfl | rfl) <;> decide
  · intro ⟨h1, h2⟩
    have : ∀ k : UInt8, b.toNat = k.toNat → b = k := fun k h => UInt8.toNat_inj.1 h
    have hc : b.toNat = 48 ∨ b.toNat = 49 ∨ b.toNat = 50 ∨ b.toNat = 51 ∨ b.toNat = 52 ∨ b.toNat = 53 ∨ b.toNat = 54 ∨ b.toNat = 55 ∨ b.toNat = 56 ∨ b.toNat = 57 := by omega
    rcases hc with h | h | h | h | h | h | h | h | h | h
    · exact .inl (this 48 h)
    · exact .inr (.inl (this 49 h))
    · exact .inr (.inr (.inl (this 50 h)))
    · exact .inr (.inr (.inr (.inl (this 51 h))))
    · exact .inr (.inr (.inr (.inr (.inl (this 52 h)))))
    · exact .inr (.inr (.inr (.inr (.inr (.inl (this 53 h))))))
    · exact .inr (.inr (.inr (.inr (.inr (.inr (.inl (this 54 h)))))))
    · exact .inr (.inr (.inr (.inr (.inr (.inr (.inr (.inl (this 55 h))))))))
    · exact .inr (.inr (.inr (.inr (.inr (.inr (.inr (.inr (.inl (this 56 h)))))))))
    · exact .inr (.inr (.inr (.inr (.inr (.inr (.inr (.inr (.inr (this 57 h)))))))))
end Go.Proofs.YtckfnbckoclhpaaDoor
