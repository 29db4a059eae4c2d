/- zed: digits as bytes; a row of bytes turned about. Plain lemmas, no program in sight. -/
import Derived.Test.YtckfnbckoclhpaaDoorBase
import Derived.Test.YtckfnbckoclhpaaDoorZMath
import Derived.Lib.ConvBytes
import Derived.Lib.TrimByte
import Derived.Laws.IdiomStrings
import Derived.Sort.Row
set_option linter.unusedVariables false
namespace Go.Proofs.YtckfnbckoclhpaaDoor
open Go.RowKit

/-- a digit's byte -/
def dby (d : Nat) : UInt8 := UInt8.ofNat (48 + d)
theorem dby_nat {d : Nat} (h : d < 10) : (dby d).toNat = 48 + d := by
  unfold dby
  rw [UInt8.toNat_ofNat']
  omega
theorem dby_zero {d : Nat} (h : d < 10) : (dby d == 48) = (d == 0) := by
  have h1 := dby_nat h
  by_cases e : d = 0
  · subst e
    rfl
  · have e1 : (d == 0) = false := by simp [e]
    rw [e1]
    have : dby d ≠ 48 := fun e2 => by
      rw [e2] at h1
      simp at h1
      omega
    simp [this]
theorem trim_dby {l : List Nat} (h : Below_ 10 l) : Lib.trimRightB (l.map dby) 48 = (tidied l).map dby := by
  revert h
  refine tidied_ind (p := fun l => Below_ 10 l → Lib.trimRightB (l.map dby) 48 = (tidied l).map dby) ?_ ?_ ?_ l
  · intro k ih h
    rw [tidied_snoc0, ← ih (fun x hx => h x (by simp [hx]))]
    have := dby_zero (d := 0) (by omega)
    simp [Lib.trimRightB, this]
  · intro _
    rfl
  · intro k x hx h
    have := dby_zero (d := x) (h x (by simp))
    have e1 : (x == 0) = false := by simp [hx]
    rw [e1] at this
    rw [tidied_snoc k hx]
    simp [Lib.trimRightB, this]
theorem ztext_pos {g : Bool} {V : Nat} (h : V ≠ 0) : ztext (if g then -(V : Int) else (V : Int)) = (if g then [45] else []) ++ (digs V).reverse.map dby := by
  have e : (fun d => UInt8.ofNat (48 + d)) = dby := rfl
  cases g
  · have h1 : ¬ ((V : Int) < 0) := by omega
    have h2 : ¬ ((V : Int) = 0) := by omega
    simp only [ztext, Bool.false_eq_true, if_false, h1, h2, Int.natAbs_natCast, e]
  · have h1 : (-(V : Int) < 0) := by omega
    have h2 : ¬ (-(V : Int) = 0) := by omega
    simp only [ztext, if_true, if_neg h2, if_pos h1, Int.natAbs_neg, Int.natAbs_natCast, e]

/-- a byte's cell -/
abbrev encB (b : UInt8) : Value := .int .u8 (b.toNat : Int)
theorem conv_row {P : Program} {w : World} {src dst e : TypeId} {A : Option Addr} {n c : Nat} (bs : List UInt8) (hs : P.underlying src = some (.slice e)) (he : P.underlying e = some (.int .u8)) (hd : P.underlying dst = some .string)
    (hS : Sl w 1 A n c (bs.map encB)) (hn : 0 < n) : (convert src dst (.slice A n c)).run P w = .ok (.string ⟨bs.toArray⟩) w := by
  have hl : bs.length = n := by have := hS.1; simpa using this
  obtain ⟨b, off, rfl, hb, hc⟩ := hS.2.2 hn
  subst hl
  refine run_convert_bytes_back w src dst e _ c bs hs he hd fun j hj => ?_
  have := hc j (encB bs[j]) (by simp [hj])
  unfold Addr.add
  split
  · rename_i h0; subst h0; simpa using this
  · exact this
theorem bytes_pu (w : World) (e : TypeId) (s : ByteArray) : Pu w (Lib.bytesWorld w e s) :=
  ⟨rfl, rfl, rfl, by rw [Lib.bytesWorld_size]; omega, fun k hk _ => Lib.bytesWorld_at_old w e s k hk⟩
theorem bytes_holds (w : World) (e : TypeId) (l : List UInt8) : Sort.Holds encB (Lib.bytesWorld w e ⟨l.toArray⟩) w.heap.size 0 l.toArray := fun j hj => by
  have hj' : j < l.length := by simpa using hj
  refine ⟨?_, ?_⟩
  · rw [Nat.zero_add, Lib.bytesWorld_cell w e ⟨l.toArray⟩ j (by simpa [ByteArray.size] using hj')]
    simp [List.getD, hj', encB]
  · have h1 : (Lib.bytesCells w e ⟨l.toArray⟩).size ≥ l.length := by simp [Lib.bytesCells]
    simp only [World.frozen?, Lib.bytesWorld_at_new, Nat.zero_add]
    simp
    omega
/-- '[]byte(s)' -/
theorem bytes_run {P : Program} (w : World) {src dst e : TypeId} (l : List UInt8) (hs : P.underlying src = some .string) (hd : P.underlying dst = some (.slice e)) (he : P.underlying e = some (.int .u8)) :
    ∃ c W, (convert src dst (.string ⟨l.toArray⟩)).run P w = .ok (.slice (some ⟨w.heap.size, 0, none⟩) l.length c) W ∧ l.length ≤ c ∧ W = Lib.bytesWorld w e ⟨l.toArray⟩ := by
  have h := Lib.run_convert_string_bytes (P := P) w src dst e ⟨l.toArray⟩ hs hd he
  have e0 : (⟨l.toArray⟩ : ByteArray).size = l.length := by simp [ByteArray.size]
  rw [e0] at h
  exact ⟨_, _, h, grownCap_ge _ _ _ _, rfl⟩
theorem str_snoc (l k : List UInt8) : (⟨l.toArray⟩ : ByteArray) ++ (⟨k.toArray⟩ : ByteArray) = ⟨(l ++ k).toArray⟩ := by
  apply ByteArray.ext
  simp
/-- the cells of digits as bytes -/
abbrev dbs (l : List Nat) : List Value := l.map fun d : Nat => Value.int .u8 ((48 + d : Nat) : Int)
theorem dbs_enc {l : List Nat} (h : Below_ 10 l) : dbs l = (l.map dby).map encB := by
  rw [List.map_map]
  refine List.map_congr_left fun d hd => ?_
  show Value.int .u8 _ = Value.int .u8 _
  rw [dby_nat (h d hd)]
/-- a call's own row is no block of another type -/
theorem own_ne {w : World} {base k n : Nat} {e t : TypeId} {v : Value} {xs : List Value} {b : Nat} {cs : Array Value} (h : w.ownsRow base e k v n xs) (hb : Blk w b t cs) (hne : t ≠ e) : v.ownBlock ≠ some b := by
  rcases h.2 with ⟨rfl, _⟩ | ⟨g, cap, cur, rfl, _, hg, _⟩
  · intro e0
    cases e0
  · intro e0
    injection e0 with e0
    have e1 : g = b := e0
    subst e1
    unfold Blk at hb
    rw [hg] at hb
    injection hb with hb
    injection hb with _ ht
    exact hne ht.symm
/-- behind a row put anew: what is read, what stays -/
theorem rev_sl {w w1 : World} {e : TypeId} {l : List UInt8} {n : Nat} (c : Nat) (h : w1 = Sort.putRow encB (Sort.ahead (Lib.bytesWorld w e ⟨l.toArray⟩) n) w.heap.size 0 l.reverse.toArray) (hc : l.length ≤ c) :
    Sl w1 1 (some ⟨w.heap.size, 0, none⟩) l.length c (l.reverse.map encB) ∧ Pu w w1 := by
  subst h
  have h0 := Sort.holds_ahead encB _ n w.heap.size 0 _ (bytes_holds w e l)
  refine ⟨⟨by simp, hc, fun hn => ⟨_, 0, rfl, ?_, fun j u hu => ?_⟩⟩, ?_⟩
  · rw [Sort.size_putRow, Sort.heap_ahead, Lib.bytesWorld_size]
    omega
  · have hj : j < l.length := by
      have := (List.getElem?_eq_some_iff.1 hu).1
      simpa using this
    rw [Sort.cell?_putRow encB _ w.heap.size 0 l.toArray l.reverse.toArray h0 (by simp) j (by simpa using hj)]
    rw [← hu]
    simp [hj]
  · have hp := bytes_pu w e ⟨l.toArray⟩
    refine ⟨hp.os, hp.tape, hp.output, by rw [Sort.size_putRow]; exact hp.size, fun k hk hs => ?_⟩
    rw [← hp.block k hk hs]
    unfold Sort.putRow Sort.mapBlock
    have h1 : w.heap.size ≠ k := by omega
    simp [Array.getElem?_modify, h1, Sort.ahead]
end Go.Proofs.YtckfnbckoclhpaaDoor
