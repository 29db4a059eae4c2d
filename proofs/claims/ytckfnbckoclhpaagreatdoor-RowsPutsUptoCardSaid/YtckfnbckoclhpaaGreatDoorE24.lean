/- Names: Named. The document's terms: with, Name; From of the least number. What matters is that they are in bounds and end. The document's terms: names and factors in memory; Name, with. What matters is that they are in bounds and end. The document's terms: with. The made sums as lists: what Both computes, and its bounds (plain). -/
import Derived.Test.YtckfnbckoclhpaaGreatDoorC01
import Derived.Test.YtckfnbckoclhpaaGreatDoorProg
import Derived.Test.YtckfnbckoclhpaaGreatDoorC09
import Derived.Test.YtckfnbckoclhpaaGreatDoorE14
import Derived.Test.YtckfnbckoclhpaaGreatDoorE15
import Derived.Test.YtckfnbckoclhpaaGreatDoorE12
namespace Go.Proofs.YtckfnbckoclhpaaGreatDoor
section
set_option linter.unusedVariables false
open Go.RowKit
def badB (x : UInt8) : Bool := x == 43 || x == 42 || x == 40 || x == 41 || x == 44
def namedM (k : Key) : Bool := k.all fun x => !badB x
theorem named_stop {k : Key} {i : Nat} {x : UInt8} (h : k[i]? = some x) (hb : badB x = true) : namedM k = false := by
  unfold namedM
  rw [List.all_eq_false]
  exact ⟨x, List.mem_of_getElem? h, by simp [hb]⟩
theorem byte_eq (x y : UInt8) : ((x.toNat : Int) == (y.toNat : Int)) = (x == y) := by
  by_cases h : x = y
  · subst h
    simp
  · have h2 : ¬ (x.toNat : Int) = (y.toNat : Int) := fun e => h (UInt8.toNat_inj.1 (by omega))
    rw [beq_eq_false_iff_ne.2 h, beq_eq_false_iff_ne.2 h2]
set_option maxHeartbeats 2000000 in
set_option maxRecDepth 100000 in
theorem named_any (k : Key) (w : World) (hk : k.length ≤ 9223372036854775807) :
    Calls Tryz.prog 12 #[.string ⟨k.toArray⟩] w fun e w' => e = .returned (.bool (namedM k)) ∧ Pu w w' := by
  go_enter Tryz.func12, Tryz.ntmps12
  go_wp2_with fail
  go_loopw [3] (fun iv wr => ∃ i : Nat, i ≤ k.length ∧ iv = .int .i64 (i : Int) ∧ Hid (namedM (k.take i) = true) ∧ Pu w wr) (fun iv _ => k.length - (intOf iv).toNat)
  case atStart => exact ⟨0, Nat.zero_le _, rfl, Lib.hid rfl, Pu.refl _⟩
  case round =>
    obtain ⟨i, hi, rfl, hE, hP⟩ := hrel
    have hsz : (⟨k.toArray⟩ : ByteArray).size = k.length := by simp [ByteArray.size]
    by_cases hlt : i < k.length
    · obtain ⟨x, hx⟩ : ∃ x, k[i]? = some x := ⟨_, List.getElem?_eq_getElem hlt⟩
      have hix : ∀ W : World, (Instr.index 9 (.string ⟨k.toArray⟩) (.int .i64 (i : Int))).run Tryz.prog W = .ok (.int .u8 (x.toNat : Int)) W := fun W => index_str k i x hx Tryz.underlying9 W
      have HX := Lib.hid hx
      have hwi : IntKind.i64.wrap ((i : Int) + 1) = (i : Int) + 1 := IntWalk.i64_in _ (by omega)
      have q1 : ((x.toNat : Int) == 43) = (x == 43) := byte_eq x 43
      have q2 : ((x.toNat : Int) == 42) = (x == 42) := byte_eq x 42
      have q3 : ((x.toNat : Int) == 40) = (x == 40) := byte_eq x 40
      have q4 : ((x.toNat : Int) == 41) = (x == 41) := byte_eq x 41
      have q5 : ((x.toNat : Int) == 44) = (x == 44) := byte_eq x 44
      have hb : badB x = (x == 43 || x == 42 || x == 40 || x == 41 || x == 44) := rfl
      have HB := Lib.hid hb
      clear hx hb
      generalize (x == 43) = o1 at *
      generalize (x == 42) = o2 at *
      generalize (x == 40) = o3 at *
      generalize (x == 41) = o4 at *
      generalize (x == 44) = o5 at *
      by_cases hbad : (o1 || o2 || o3 || o4 || o5) = true
      · have HBad := Lib.hid hbad
        clear hbad
        have Hst := Lib.hid (named_stop HX.out (HB.out.trans HBad.out))
        cases o1 <;> cases o2 <;> cases o3 <;> cases o4 <;> cases o5
        all_goals first
          | (exact absurd HBad.out (by decide))
          | (go_wp2
             go_ret
             exact ⟨by rw [Hst.out]; rfl, hP⟩)
      · have HBad := Lib.hid hbad
        clear hbad
        obtain ⟨rfl, rfl, rfl, rfl, rfl⟩ : o1 = false ∧ o2 = false ∧ o3 = false ∧ o4 = false ∧ o5 = false := by
          have := HBad.out
          cases o1 <;> cases o2 <;> cases o3 <;> cases o4 <;> cases o5 <;> simp_all
        go_wp2
        go_roundw
        case rel => exact ⟨i + 1, by omega, by go_num, Lib.hid (by
          have h1 := hE.out
          unfold namedM at *
          rw [List.take_add_one, HX.out, List.all_append, h1]
          simp [HB.out]), hP⟩
        case measure => simp [intOf]; omega
    · obtain rfl : i = k.length := by omega
      have h1 := hE.out
      rw [List.take_of_length_le (Nat.le_refl _)] at h1
      have H1 := Lib.hid h1
      clear h1
      go_wp2
      go_ret
      exact ⟨by rw [H1.out]; rfl, hP⟩
end
section
set_option linter.unusedVariables false
open Go.RowKit
set_option maxHeartbeats 1500000 in
set_option maxRecDepth 100000 in
theorem rfrom_min (w : World) :
    Calls Tryz.prog 44 #[.int .i64 (-9223372036854775808)] w fun e w' => ∃ v, e = .returned v ∧ RZ w' v 0 ∧ Pu w w' := by
  have hW : Pu w (w.alloc (.cells #[.int .i64 0, .slice none 0 0] 54)) := (Pu.refl w).alloc _
  have kA : Blk (w.alloc (.cells #[.int .i64 0, .slice none 0 0] 54)) w.heap.size 54 #[.int .i64 0, .slice none 0 0] := Blk.new _ _ _
  have hw1 : IntKind.i64.wrap (9223372036854775808) = -9223372036854775808 := by decide
  have hw2 : IntKind.i64.wrap (-(-9223372036854775808)) = -9223372036854775808 := by decide
  go_enter Tryz.func44, Tryz.ntmps44
  go_wp2_with fail
  go_loopw [0, 4] (fun nv dv ws => nv = .int .i64 (-9223372036854775808) ∧ dv = .slice none 0 0 ∧ ws = w.alloc (.cells #[.int .i64 0, .slice none 0 0] 54)) (fun nv _ _ => 0)
  case atStart => exact ⟨rfl, rfl, rfl⟩
  case round =>
    obtain ⟨rfl, rfl, rfl⟩ := hrel
    have hmd := rmade_any (-1) none 0 0 [] _ (Sl.nil (w.alloc (.cells #[.int .i64 0, .slice none 0 0] 54)) _ _ _) (by omega) (by simp [maxLen]) (Below_.nil _) (IntAt.none _) (by omega)
    have Hmd := Lib.hid hmd
    clear hmd
    go_wp2_with fail
    refine Hmd.out.mono ?_
    rintro e w3 ⟨v', rfl, hz', p3⟩
    have hR1 := kA.pu p3
    obtain ⟨σ', A', n', c', rfl⟩ : ∃ σ A n c, v' = .agg #[.int .i64 σ, .slice A n c] := by
      obtain ⟨A, n, c, l, rfl, -⟩ := hz'
      exact ⟨_, A, n, c, rfl⟩
    have q0 : w3.cell? ⟨w.heap.size, 0, none⟩ = some (.int .i64 0) := hR1.cell 0
    have q1 : w3.cell? ⟨w.heap.size, 1, none⟩ = some (.slice none 0 0) := hR1.cell 1
    have f0 : w3.frozen? ⟨w.heap.size, 0, none⟩ = false := hR1.frozen 0
    have f1 : w3.frozen? ⟨w.heap.size, 1, none⟩ = false := hR1.frozen 1
    obtain ⟨r0, r1, rp, rf⟩ := store_rz hR1 σ' A' n' c'
    have hfin := rf _ _ hz'
    have PP := rp _ (hW.trans p3) (Nat.le_refl _)
    go_wp2
    exact bodyPost_ret (v := .agg #[.int .i64 σ', .slice A' n' c']) (by simp [results, Tryz.results44, go_sem, r0, r1]) rfl ⟨_, rfl, hfin, PP⟩
end
section
set_option linter.unusedVariables false
open Go.RowKit
structure RawZ where
  s : Int
  A : Option Addr
  n : Nat
  c : Nat
def RawZ.cells (q : RawZ) : List Value := [.int .i64 q.s, .slice q.A q.n q.c]
def RawZ.val (q : RawZ) : Value := .agg #[.int .i64 q.s, .slice q.A q.n q.c]
theorem RawZ.cells_len (q : RawZ) : q.cells.length = 2 := rfl
theorem RawZ.cells_one (q : RawZ) : ∀ u ∈ q.cells, u.oneCell' = true := by
  intro u hu
  simp [RawZ.cells] at hu
  rcases hu with rfl | rfl <;> rfl
theorem RZ.raw {w : World} {v : Value} {z : Int} (h : RZ w v z) : ∃ s A n c, v = .agg #[.int .i64 s, .slice A n c] := by
  obtain ⟨A, n, c, l, rfl, -⟩ := h
  exact ⟨_, A, n, c, rfl⟩
theorem RZ.frT {S : Nat → Prop} {w w' : World} {v : Value} {z : Int} (h : RZ w v z) (hf : Fr S w w') (hs : ∀ g, S g → ∃ t cs fz, w.heap[g]? = some (.cells cs t fz) ∧ t ≠ 3) : RZ w' v z := by
  obtain ⟨A, n, c, l, h1, h2, h3, h4, h5, h6, h7⟩ := h
  have hne : ∀ b off, A = some ⟨b, off, none⟩ → ¬ S b := fun b off e hS => by
    obtain ⟨cs, fz, hb⟩ := h7 b off e
    obtain ⟨t, cs', fz', hb', ht⟩ := hs b hS
    rw [hb] at hb'
    injection hb' with hb'
    injection hb' with _ hb' _
    exact ht hb'.symm
  exact ⟨A, n, c, l, h1, h2.fr hf (fun _ b off e => hne b off e), h3, h4, h5, h6, h7.fr hf (fun b off _ _ e _ => hne b off e)⟩
def NZ_ (w : World) (B : Nat) (v : Value) : Prop := ∃ z, RZ w v z ∧ z.natAbs ≤ B
theorem NZ_.pu {w w' : World} {B : Nat} {v : Value} (h : NZ_ w B v) (p : Pu w w') : NZ_ w' B v := by
  obtain ⟨z, h1, h2⟩ := h
  exact ⟨z, h1.pu p, h2⟩
theorem NZ_.le {w : World} {B B' : Nat} {v : Value} (h : NZ_ w B v) (hb : B ≤ B') : NZ_ w B' v := by
  obtain ⟨z, h1, h2⟩ := h
  exact ⟨z, h1, Nat.le_trans h2 hb⟩
def OfT (w : World) (A : Option Addr) (t : TypeId) : Prop := ∀ b off, A = some ⟨b, off, none⟩ → ∃ cs fz, w.heap[b]? = some (.cells cs t fz)
theorem OfT.fr {S : Nat → Prop} {w w' : World} {A : Option Addr} {t : TypeId} (h : OfT w A t) (hf : Fr S w w') (hs : ∀ g, S g → ∃ t' cs fz, w.heap[g]? = some (.cells cs t' fz) ∧ t' ≠ t) : OfT w' A t := fun b off e => by
  obtain ⟨cs, fz, h1⟩ := h b off e
  refine ⟨cs, fz, ?_⟩
  rw [hf.block b (Array.getElem?_eq_some_iff.1 h1).1 (fun hS => by
    obtain ⟨t', cs', fz', h2, h3⟩ := hs b hS
    rw [h1] at h2
    injection h2 with h2
    injection h2 with _ h2 _
    exact h3 h2.symm)]
  exact h1
theorem OfT.pu {w w' : World} {A : Option Addr} {t : TypeId} (h : OfT w A t) (p : Pu w w') : OfT w' A t := h.fr p (fun g hg => hg.elim)
theorem OfT.own {w : World} {base n c k : Nat} {e : TypeId} {A : Option Addr} {xs : List Value} (ho : w.ownsRow base e k (.slice A n c) n xs) : OfT w A e := fun b off hA => by
  rcases ho.2 with ⟨hv, _⟩ | ⟨g, cap, cur, hv, _, hgg, _⟩
  · injection hv with h1 _ _
    rw [hA] at h1
    cases h1
  · injection hv with h1 _ _
    rw [hA] at h1
    injection h1 with h1
    injection h1 with h1 _ _
    rw [h1]
    exact ⟨_, _, hgg⟩
theorem OfT.ne {S : Nat → Prop} {w : World} {A : Option Addr} {t : TypeId} (h : OfT w A t) (hs : ∀ g, S g → ∃ t' cs fz, w.heap[g]? = some (.cells cs t' fz) ∧ t' ≠ t) : ∀ b off, A = some ⟨b, off, none⟩ → ¬ S b := fun b off e hS => by
  obtain ⟨cs, fz, h1⟩ := h b off e
  obtain ⟨t', cs', fz', h2, h3⟩ := hs b hS
  rw [h1] at h2
  injection h2 with h2
  injection h2 with _ h2 _
  exact h3 h2.symm
structure TR (w : World) (An : Option Addr) (n cn : Nat) (Af : Option Addr) (cf : Nat) (r : RawZ) (B : Nat) : Prop where
  nm : ∃ ks, Sl w 1 An n cn (kts ks)
  fc : ∃ L, Sl w 2 Af n cf (cat RawZ.cells L) ∧ ∀ q ∈ L, NZ_ w B q.val
  rs : NZ_ w B r.val
  tn : OfT w An 9
  tf : OfT w Af 54
theorem TR.pu {w w' : World} {An : Option Addr} {n cn : Nat} {Af : Option Addr} {cf : Nat} {r : RawZ} {B : Nat} (h : TR w An n cn Af cf r B) (p : Pu w w') : TR w' An n cn Af cf r B := by
  obtain ⟨⟨ks, h1⟩, ⟨L, h2, h3⟩, h4, h5, h6⟩ := h
  exact ⟨⟨ks, h1.pu p⟩, ⟨L, h2.pu p, fun q hq => (h3 q hq).pu p⟩, h4.pu p, h5.pu p, h6.pu p⟩
theorem TR.frT {S : Nat → Prop} {w w' : World} {An : Option Addr} {n cn : Nat} {Af : Option Addr} {cf : Nat} {r : RawZ} {B : Nat} (h : TR w An n cn Af cf r B) (hf : Fr S w w') (hs : ∀ g, S g → ∃ t cs fz, w.heap[g]? = some (.cells cs t fz) ∧ t ≠ 3 ∧ t ≠ 9 ∧ t ≠ 54) : TR w' An n cn Af cf r B := by
  have hi : ∀ g, S g → ∃ t cs fz, w.heap[g]? = some (.cells cs t fz) ∧ t ≠ 3 := fun g hg => by
    obtain ⟨t, cs, fz, e, h1, _⟩ := hs g hg
    exact ⟨t, cs, fz, e, h1⟩
  have hS : ∀ g, S g → ∃ t cs fz, w.heap[g]? = some (.cells cs t fz) ∧ t ≠ 9 := fun g hg => by
    obtain ⟨t, cs, fz, e, _, h1, _⟩ := hs g hg
    exact ⟨t, cs, fz, e, h1⟩
  have hZ : ∀ g, S g → ∃ t cs fz, w.heap[g]? = some (.cells cs t fz) ∧ t ≠ 54 := fun g hg => by
    obtain ⟨t, cs, fz, e, _, _, h1⟩ := hs g hg
    exact ⟨t, cs, fz, e, h1⟩
  have hn : ∀ {v : Value}, NZ_ w B v → NZ_ w' B v := fun ⟨z, h1, h2⟩ => ⟨z, h1.frT hf hi, h2⟩
  obtain ⟨⟨ks, h1⟩, ⟨L, h2, h3⟩, h4, h5, h6⟩ := h
  exact ⟨⟨ks, h1.fr hf (fun _ b off e => h5.ne hS b off e)⟩, ⟨L, h2.fr hf (fun _ b off e => h6.ne hZ b off e), fun q hq => hn (h3 q hq)⟩, hn h4, h5.fr hf hS, h6.fr hf hZ⟩
structure TO (w : World) (base : Nat) (An : Option Addr) (n cn : Nat) (Af : Option Addr) (cf : Nat) (r : RawZ) (B : Nat) : Prop where
  nm : ∃ ks, w.ownsRow base 9 1 (.slice An n cn) n (kts ks)
  fc : ∃ L, w.ownsRow base 54 2 (.slice Af n cf) n (cat RawZ.cells L) ∧ ∀ q ∈ L, NZ_ w B q.val
  rs : NZ_ w B r.val
section
variable {w w' : World} {base : Nat} {An : Option Addr} {n cn : Nat} {Af : Option Addr} {cf : Nat} {r : RawZ} {B : Nat}
theorem TO.tr (h : TO w base An n cn Af cf r B) : TR w An n cn Af cf r B := by
  obtain ⟨⟨ks, h1⟩, ⟨L, h2, h3⟩, h4⟩ := h
  exact ⟨⟨ks, Sl.of_own h1⟩, ⟨L, Sl.of_own h2, h3⟩, h4, OfT.own h1, OfT.own h2⟩
theorem TO.pu (h : TO w base An n cn Af cf r B) (p : Pu w w') : TO w' base An n cn Af cf r B := by
  obtain ⟨⟨ks, h1⟩, ⟨L, h2, h3⟩, h4⟩ := h
  exact ⟨⟨ks, own_pu h1 p⟩, ⟨L, own_pu h2 p, fun q hq => (h3 q hq).pu p⟩, h4.pu p⟩
theorem TO.nil (hr : NZ_ w B r.val) : TO w base none 0 0 none 0 r B := ⟨⟨[], World.ownsRow_nil _ _ _ _⟩, ⟨[], World.ownsRow_nil _ _ _ _, fun q hq => by cases hq⟩, hr⟩
theorem TO.frT {S : Nat → Prop} (h : TO w base An n cn Af cf r B) (hf : Fr S w w') (hs : ∀ g, S g → ∃ t cs fz, w.heap[g]? = some (.cells cs t fz) ∧ t ≠ 3 ∧ t ≠ 9 ∧ t ≠ 54) : TO w' base An n cn Af cf r B := by
  have hi : ∀ g, S g → ∃ t cs fz, w.heap[g]? = some (.cells cs t fz) ∧ t ≠ 3 := fun g hg => by
    obtain ⟨t, cs, fz, e, h1, _⟩ := hs g hg
    exact ⟨t, cs, fz, e, h1⟩
  have hn : ∀ {v : Value}, NZ_ w B v → NZ_ w' B v := fun ⟨z, h1, h2⟩ => ⟨z, h1.frT hf hi, h2⟩
  have other : ∀ {A : Option Addr} {m c k : Nat} {e : TypeId} {xs : List Value}, w.ownsRow base e k (.slice A m c) m xs → (e = 9 ∨ e = 54) → w'.ownsRow base e k (.slice A m c) m xs := fun ho he => own_fr ho hf (fun g hg hS => by
    obtain ⟨t, cs, fz, e1, _, h2, h3⟩ := hs g hS
    obtain ⟨_, t', cs', fz', e2, h4⟩ := own_typed ho g hg
    rw [e1] at e2
    injection e2 with e2
    injection e2 with _ e2 _
    rw [← e2] at h4
    rcases he with he | he
    · exact h2 (h4.trans he)
    · exact h3 (h4.trans he))
  obtain ⟨⟨ks, h1⟩, ⟨L, h2, h3⟩, h4⟩ := h
  exact ⟨⟨ks, other h1 (.inl rfl)⟩, ⟨L, other h2 (.inr rfl), fun q hq => hn (h3 q hq)⟩, hn h4⟩
end
theorem eiRZ : ElemI Tryz.prog 51 54 (.agg #[.int .i64 0, .slice none 0 0]) 2 32 := ⟨Tryz.underlying51, by kernel_rfl, rfl, by decide⟩
def tval (An : Option Addr) (n cn : Nat) (Af : Option Addr) (nf cf : Nat) (r : RawZ) : Value := .agg #[.slice An n cn, .slice Af nf cf, .int .i64 r.s, .slice r.A r.n r.c]
set_option maxHeartbeats 2000000 in
set_option maxRecDepth 100000 in
theorem rname_any (k : Key) (w : World) :
    Calls Tryz.prog 46 #[.string ⟨k.toArray⟩] w fun e w' => ∃ An cn Af cf r, e = .returned (tval An 1 cn Af 1 cf r) ∧ TR w' An 1 cn Af cf r 1 ∧ Pu w w' := by
  have p1 : Pu w ((w.alloc (.cells #[.slice none 0 0, .slice none 0 0, .int .i64 0, .slice none 0 0] 56)).alloc (.cells #[.string ⟨k.toArray⟩] 9)) := ((Pu.refl w).alloc _).alloc _
  have k0 : Blk ((w.alloc (.cells #[.slice none 0 0, .slice none 0 0, .int .i64 0, .slice none 0 0] 56)).alloc (.cells #[.string ⟨k.toArray⟩] 9)) w.heap.size 56 #[.slice none 0 0, .slice none 0 0, .int .i64 0, .slice none 0 0] := (Blk.new w _ _).alloc _
  have k1 : Blk ((w.alloc (.cells #[.slice none 0 0, .slice none 0 0, .int .i64 0, .slice none 0 0] 56)).alloc (.cells #[.string ⟨k.toArray⟩] 9)) (w.heap.size + 1) 9 #[.string ⟨k.toArray⟩] := Blk.at_new _ _ _ (by simp)
  have H := Lib.hid (rfrom_any 1 ((w.alloc (.cells #[.slice none 0 0, .slice none 0 0, .int .i64 0, .slice none 0 0] 56)).alloc (.cells #[.string ⟨k.toArray⟩] 9)) (by decide))
  go_enter Tryz.func46, Tryz.ntmps46
  go_wp2_with fail
  refine H.out.mono ?_
  rintro e w2 ⟨v, rfl, hz, p2⟩
  obtain ⟨s, A, n, c, rfl⟩ := hz.raw
  have P2 := p1.trans p2
  have kT := (k0.pu p2).alloc (.cells #[.int .i64 s, .slice A n c] 54)
  have kN := (k1.pu p2).alloc (.cells #[.int .i64 s, .slice A n c] 54)
  have kF : Blk (w2.alloc (.cells #[.int .i64 s, .slice A n c] 54)) w2.heap.size 54 #[.int .i64 s, .slice A n c] := Blk.new _ _ _
  have hz3 := hz.pu ((Pu.refl w2).alloc (.cells #[.int .i64 s, .slice A n c] 54))
  have P3 := P2.alloc (.cells #[.int .i64 s, .slice A n c] 54)
  obtain ⟨W, hWe⟩ : ∃ W, W = w2.alloc (.cells #[.int .i64 s, .slice A n c] 54) := ⟨_, rfl⟩
  rw [← hWe] at kT kN kF hz3 P3
  have t0 := kT.cell 0
  have t1 := kT.cell 1
  have t2 := kT.cell 2
  have t3 := kT.cell 3
  have f0 := kT.frozen 0
  have f1 := kT.frozen 1
  have f2 := kT.frozen 2
  have f3 := kT.frozen 3
  rw [hWe] at t0 t1 t2 t3 f0 f1 f2 f3
  have hF : Fr (fun i => i = w.heap.size) W ((((W.setCell ⟨w.heap.size, 0, none⟩ (.slice (some ⟨w.heap.size + 1, 0, none⟩) 1 1)).setCell ⟨w.heap.size, 1, none⟩ (.slice (some ⟨w2.heap.size, 0, none⟩) 1 1)).setCell ⟨w.heap.size, 2, none⟩ (.int .i64 0)).setCell ⟨w.heap.size, 3, none⟩ (.slice none 0 0)) :=
    (((Fr.one W _ 0 _).trans (Fr.one _ _ 1 _)).trans (Fr.one _ _ 2 _)).trans (Fr.one _ _ 3 _)
  have hT : ∀ i, i = w.heap.size → ∃ t cs fz, W.heap[i]? = some (.cells cs t fz) ∧ t ≠ 3 := fun i hi => by
    subst hi
    exact ⟨_, _, _, kT, by decide⟩
  have kN2 := kN.fr hF (by omega)
  have kF2 := kF.fr hF (kF.ne_ kT (by decide))
  have hz4 := hz3.frT hF hT
  have kT2 := (((kT.set_ 0 (.slice (some ⟨w.heap.size + 1, 0, none⟩) 1 1)).set_ 1 (.slice (some ⟨w2.heap.size, 0, none⟩) 1 1)).set_ 2 (.int .i64 0)).set_ 3 (.slice none 0 0)
  have PP := P3.step hF (fun i e => by
    have e' : i = w.heap.size := e
    omega)
  have r0 := kT2.cell 0
  have r1 := kT2.cell 1
  have r2 := kT2.cell 2
  have r3 := kT2.cell 3
  have hfin := Lib.hid (And.intro kN2 (And.intro kF2 (And.intro hz4 PP)))
  have HWe := Lib.hid hWe
  clear hWe hF hT kN2 kF2 hz4 kT2 PP kN kF hz3 hz P3 P2 p2 kT k0 k1
  go_wp2
  rw [← HWe.out]
  exact bodyPost_ret (v := tval (some ⟨w.heap.size + 1, 0, none⟩) 1 1 (some ⟨w2.heap.size, 0, none⟩) 1 1 ⟨0, none, 0, 0⟩) (by simp [results, Tryz.results46, go_sem, r0, r1, r2, r3, tval]) rfl ⟨_, _, _, _, ⟨0, none, 0, 0⟩, rfl, ⟨⟨[k], Sl.of_blk hfin.out.1 1 1 1 rfl (by omega)⟩, ⟨[⟨s, A, n, c⟩], Sl.of_blk hfin.out.2.1 2 1 1 rfl (by omega), fun q hq => by
    rw [List.mem_singleton.1 hq]
    exact ⟨1, hfin.out.2.2.1, by decide⟩⟩, ⟨0, RZ.zero _, by decide⟩, fun b off e => by
    injection e with e
    injection e with e _ _
    subst e
    exact ⟨_, _, hfin.out.1⟩, fun b off e => by
    injection e with e
    injection e with e _ _
    subst e
    exact ⟨_, _, hfin.out.2.1⟩⟩, hfin.out.2.2.2⟩
end
section
set_option linter.unusedVariables false
open Go.RowKit
theorem own_frT {S : Nat → Prop} {w w' : World} {base n c k : Nat} {e : TypeId} {A : Option Addr} {xs : List Value} (ho : w.ownsRow base e k (.slice A n c) n xs) (hf : Fr S w w') (hs : ∀ g, S g → ∃ t cs fz, w.heap[g]? = some (.cells cs t fz) ∧ t ≠ e) : w'.ownsRow base e k (.slice A n c) n xs :=
  own_fr ho hf (fun g hg hS => by
    obtain ⟨t, cs, fz, e1, h2⟩ := hs g hS
    obtain ⟨_, t', cs', fz', e2, h4⟩ := own_typed ho g hg
    rw [e1] at e2
    injection e2 with e2
    injection e2 with _ e2 _
    exact h2 (e2.trans h4))
theorem NZ_.frT {S : Nat → Prop} {w w' : World} {B : Nat} {v : Value} (h : NZ_ w B v) (hf : Fr S w w') (hs : ∀ g, S g → ∃ t cs fz, w.heap[g]? = some (.cells cs t fz) ∧ t ≠ 3) : NZ_ w' B v := by
  obtain ⟨z, h1, h2⟩ := h
  exact ⟨z, h1.frT hf hs, h2⟩
theorem typed_own {w : World} {base n c k : Nat} {e e' : TypeId} {A : Option Addr} {xs : List Value} (ho : w.ownsRow base e k (.slice A n c) n xs) (hne : e ≠ e') : ∀ g, (Value.slice A n c).ownBlock = some g → ∃ t cs fz, w.heap[g]? = some (.cells cs t fz) ∧ t ≠ e' := fun g hg => by
  obtain ⟨_, t, cs, fz, h1, h2⟩ := own_typed ho g hg
  exact ⟨t, cs, fz, h1, by rw [h2]; exact hne⟩
theorem typed_blk {w : World} {b : Nat} {e e' : TypeId} {cs : Array Value} (kb : Blk w b e cs) (hne : e ≠ e') : ∀ g, g = b → ∃ t cs fz, w.heap[g]? = some (.cells cs t fz) ∧ t ≠ e' := fun g hg => by
  subst hg
  exact ⟨_, _, _, kb, hne⟩
theorem over_T {W : World} {b : Nat} {x0 x1 x2 x3 : Value} (k : Blk W b 56 #[x0, x1, x2, x3]) (y0 y1 y2 y3 : Value) :
    Blk ((((W.setCell ⟨b, 0, none⟩ y0).setCell ⟨b, 1, none⟩ y1).setCell ⟨b, 2, none⟩ y2).setCell ⟨b, 3, none⟩ y3) b 56 #[y0, y1, y2, y3] ∧ Fr (fun i => i = b) W ((((W.setCell ⟨b, 0, none⟩ y0).setCell ⟨b, 1, none⟩ y1).setCell ⟨b, 2, none⟩ y2).setCell ⟨b, 3, none⟩ y3) :=
  ⟨(((k.set_ 0 y0).set_ 1 y1).set_ 2 y2).set_ 3 y3, (((Fr.one W _ 0 _).trans (Fr.one _ _ 1 _)).trans (Fr.one _ _ 2 _)).trans (Fr.one _ _ 3 _)⟩
set_option maxHeartbeats 2000000 in
set_option maxRecDepth 100000 in
theorem with_any (base : Nat) (An : Option Addr) (n cn : Nat) (Af : Option Addr) (cf : Nat) (r : RawZ) (B : Nat) (k : Key) (q : RawZ) (w : World) (h : TO w base An n cn Af cf r B) (hz : NZ_ w B q.val) (hb : base ≤ w.heap.size) (hn : n ≤ 1000) :
    Calls Tryz.prog 80 #[tval An n cn Af n cf r, .string ⟨k.toArray⟩, q.val] w fun e w' => ∃ An' n' cn' Af' cf', e = .returned (tval An' n' cn' Af' n' cf' r) ∧ n' ≤ n + 1 ∧ TO w' base An' n' cn' Af' cf' r B ∧ Fr (fun j => base ≤ j) w w' := by
  obtain ⟨qs, qA, qn, qc⟩ := q
  obtain ⟨rs, rA, rn, rc⟩ := r
  unfold tval
  unfold RawZ.val at hz ⊢
  dsimp only at hz ⊢
  obtain ⟨W, hWe⟩ : ∃ W, W = ((w.alloc (.cells #[.slice An n cn, .slice Af n cf, .int .i64 rs, .slice rA rn rc] 56)).alloc (.cells #[.int .i64 qs, .slice qA qn qc] 54)).alloc (.cells #[.slice none 0 0, .slice none 0 0, .int .i64 0, .slice none 0 0] 56) := ⟨_, rfl⟩
  have pW : Pu w W := by rw [hWe]; exact (((Pu.refl w).alloc _).alloc _).alloc _
  have k3 : Blk W w.heap.size 56 #[.slice An n cn, .slice Af n cf, .int .i64 rs, .slice rA rn rc] := by rw [hWe]; exact ((Blk.new w _ _).alloc _).alloc _
  have k5 : Blk W (w.heap.size + 1) 54 #[.int .i64 qs, .slice qA qn qc] := by rw [hWe]; exact (Blk.at_new _ _ _ (by simp)).alloc _
  have k6 : Blk W (w.heap.size + 1 + 1) 56 #[.slice none 0 0, .slice none 0 0, .int .i64 0, .slice none 0 0] := by rw [hWe]; exact Blk.at_new _ _ _ (by simp)
  have hTW := h.pu pW
  have hzW := hz.pu pW
  have hsz : W.heap.size = w.heap.size + 3 := by rw [hWe]; simp
  have HWe := Lib.hid hWe
  by_cases hs : qs = 0
  · subst hs
    obtain ⟨V, hVe⟩ : ∃ V, V = ((w.alloc (.cells #[.slice An n cn, .slice Af n cf, .int .i64 rs, .slice rA rn rc] 56)).alloc (.cells #[.int .i64 0, .slice qA qn qc] 54)).alloc (.cells #[.slice An n cn, .slice Af n cf, .int .i64 rs, .slice rA rn rc] 56) := ⟨_, rfl⟩
    have pV : Pu w V := by rw [hVe]; exact (((Pu.refl w).alloc _).alloc _).alloc _
    have kR : Blk V (w.heap.size + 1 + 1) 56 #[.slice An n cn, .slice Af n cf, .int .i64 rs, .slice rA rn rc] := by rw [hVe]; exact Blk.at_new _ _ _ (by simp)
    have r0 := kR.cell 0
    have r1 := kR.cell 1
    have r2 := kR.cell 2
    have r3 := kR.cell 3
    have HH := Lib.hid (And.intro (h.pu pV) pV)
    have HVe := Lib.hid hVe
    clear hWe hVe kR k3 k5 k6 hTW hzW h hz pW pV
    go_enter Tryz.func80, Tryz.ntmps80
    go_wp2
    rw [← HVe.out]
    exact bodyPost_ret (v := .agg #[.slice An n cn, .slice Af n cf, .int .i64 rs, .slice rA rn rc]) (by simp [results, Tryz.results80, go_sem, r0, r1, r2, r3]) rfl ⟨An, n, cn, Af, cf, rfl, by omega, HH.out.1, HH.out.2.fr⟩
  · obtain ⟨⟨ks, hnm⟩, ⟨L, hfc, hfz⟩, hrs⟩ := hTW
    have a0 := k3.cell 0
    rw [hWe] at a0
    have b0 := k5.cell 0
    rw [hWe] at b0
    have hs2 : (qs == 0) = false := by simpa using hs
    have hnm0 := hnm
    rw [hWe] at hnm0
    have hszB : base ≤ W.heap.size := by omega
    have hszB2 := hszB
    rw [hWe] at hszB2
    clear hWe h hz
    go_enter Tryz.func80, Tryz.ntmps80
    go_wp2_with (at_builtin; refine wpList_pushAt eiText rfl _ _ rfl #[.string ⟨k.toArray⟩] rfl (by simp [Value.oneCell']) rfl rfl (by simp) hnm0 (by simp [maxLen]; omega) (by omega) hszB2 ?_)
    intro A1 c1 w3 ho3 hg3
    rw [← HWe.out] at hg3
    have g3 := Fr.of_grown hg3
    have k33 := k3.fr g3 (own_other hnm k3 (by decide))
    have k53 := k5.fr g3 (own_other hnm k5 (by decide))
    have k63 := k6.fr g3 (own_other hnm k6 (by decide))
    have hfc3 := own_frT hfc g3 (typed_own hnm (by decide))
    have hfz3 : ∀ q ∈ L, NZ_ w3 B q.val := fun q hq => (hfz q hq).frT g3 (typed_own hnm (by decide))
    have hrs3 := hrs.frT g3 (typed_own hnm (by decide))
    have hz3 := hzW.frT g3 (typed_own hnm (by decide))
    have hF3 : Fr (fun j => base ≤ j) w w3 := pW.fr.step g3 (fun i hi => .inl (own_typed hnm i hi).1)
    have x0 := k33.cell 0
    have x1 := k33.cell 1
    have x2 := k33.cell 2
    have x3 := k33.cell 3
    have y0 := k53.cell 0
    have y1 := k53.cell 1
    have fx0 := k33.frozen 0
    have fx1 := k33.frozen 1
    -- the names' store
    have e4 := Fr.one w3 w.heap.size 0 (.slice A1 (n + 1) c1)
    have k34 := k33.set_ 0 (.slice A1 (n + 1) c1)
    have k54 := k53.fr e4 (k53.ne_ k33 (by decide))
    have k64 := k63.fr e4 (by omega)
    have ho4 := own_frT ho3 e4 (typed_blk k33 (by decide))
    have hfc4 := own_frT hfc3 e4 (typed_blk k33 (by decide))
    have hfz4 : ∀ q ∈ L, NZ_ _ B q.val := fun q hq => (hfz3 q hq).frT e4 (typed_blk k33 (by decide))
    have hrs4 := hrs3.frT e4 (typed_blk k33 (by decide))
    have hz4 := hz3.frT e4 (typed_blk k33 (by decide))
    have hF4 : Fr (fun j => base ≤ j) w _ := hF3.step e4 (fun i hi => .inl (by
      have e : i = w.heap.size := hi
      omega))
    have hsz4 := hF4.size
    have hszB4 := Nat.le_trans hb hsz4
    clear hfc hfz hrs hzW g3 hg3 hnm hnm0 k3 k5 k6 ho3 hfc3 hfz3 hrs3 hz3 hF3 e4
    have HK := Lib.hid (And.intro k34 (And.intro k54 k64))
    have HR := Lib.hid (And.intro ho4 (And.intro hfz4 (And.intro hrs4 (And.intro hz4 hF4))))
    clear k34 k54 k64 k33 k53 k63 ho4 hfz4 hrs4 hz4 hF4
    go_wp2_with (at_builtin; refine wpList_pushAt eiRZ rfl _ _ rfl #[.int .i64 qs, .slice qA qn qc] rfl (RawZ.cells_one ⟨qs, qA, qn, qc⟩) rfl rfl (by simp) hfc4 (by simp [maxLen]; omega) (by omega) hszB4 ?_)
    intro A2 c2 w5 ho5 hg5
    have g5 := Fr.of_grown hg5
    obtain ⟨ho4, hfz4, hrs4, hz4, hF4⟩ := HR.out
    obtain ⟨k34, k54, k64⟩ := HK.out
    have k35 := k34.fr g5 (own_other hfc4 k34 (by decide))
    have k65 := k64.fr g5 (own_other hfc4 k64 (by decide))
    have ho6 := own_frT ho4 g5 (typed_own hfc4 (by decide))
    have hfz5 : ∀ q ∈ L, NZ_ w5 B q.val := fun q hq => (hfz4 q hq).frT g5 (typed_own hfc4 (by decide))
    have hrs5 := hrs4.frT g5 (typed_own hfc4 (by decide))
    have hz5 := hz4.frT g5 (typed_own hfc4 (by decide))
    have hF5 : Fr (fun j => base ≤ j) w w5 := hF4.step g5 (fun i hi => .inl (own_typed hfc4 i hi).1)
    have v0 := k35.cell 0
    have v1 := k35.cell 1
    have v2 := k35.cell 2
    have v3 := k35.cell 3
    have fv1 := k35.frozen 1
    have u0 := k65.cell 0
    have u1 := k65.cell 1
    have u2 := k65.cell 2
    have u3 := k65.cell 3
    have fu0 := k65.frozen 0
    have fu1 := k65.frozen 1
    have fu2 := k65.frozen 2
    have fu3 := k65.frozen 3
    have e6 := Fr.one w5 w.heap.size 1 (.slice A2 (n + 1) c2)
    have k36 := k35.set_ 1 (.slice A2 (n + 1) c2)
    have k66 := k65.fr e6 (by omega)
    have ho7 := own_frT ho6 e6 (typed_blk k35 (by decide))
    have ho8 := own_frT ho5 e6 (typed_blk k35 (by decide))
    have hfz6 : ∀ q ∈ L, NZ_ _ B q.val := fun q hq => (hfz5 q hq).frT e6 (typed_blk k35 (by decide))
    have hrs6 := hrs5.frT e6 (typed_blk k35 (by decide))
    have hz6 := hz5.frT e6 (typed_blk k35 (by decide))
    have hF6 : Fr (fun j => base ≤ j) w _ := hF5.step e6 (fun i hi => .inl (by
      have e : i = w.heap.size := hi
      omega))
    obtain ⟨kR, e7⟩ := over_T k66 (.slice A1 (n + 1) c1) (.slice A2 (n + 1) c2) (.int .i64 rs) (.slice rA rn rc)
    have t9 := own_frT ho7 e7 (typed_blk k66 (by decide))
    have t10 := own_frT ho8 e7 (typed_blk k66 (by decide))
    have hfz7 : ∀ q ∈ L, NZ_ _ B q.val := fun q hq => (hfz6 q hq).frT e7 (typed_blk k66 (by decide))
    have hrs7 := hrs6.frT e7 (typed_blk k66 (by decide))
    have hz7 := hz6.frT e7 (typed_blk k66 (by decide))
    have hF7 : Fr (fun j => base ≤ j) w _ := hF6.step e7 (fun i hi => .inl (by
      have e : i = w.heap.size + 1 + 1 := hi
      omega))
    have r0 := kR.cell 0
    have r1 := kR.cell 1
    have r2 := kR.cell 2
    have r3 := kR.cell 3
    have HF := Lib.hid (And.intro t9 (And.intro t10 (And.intro hfz7 (And.intro hrs7 (And.intro hz7 hF7)))))
    clear g5 hg5 ho4 hfz4 hrs4 hz4 hF4 k34 k54 k64 ho6 hfz5 hrs5 hz5 hF5 e6 k36 k66 ho7 ho8 hfz6 hrs6 hz6 hF6 kR e7 t9 t10 hfz7 hrs7 hz7 hF7 ho5 hfc4 k35 k65
    go_wp2
    refine bodyPost_ret (v := .agg #[.slice A1 (n + 1) c1, .slice A2 (n + 1) c2, .int .i64 rs, .slice rA rn rc]) (by simp [results, Tryz.results80, go_sem, r0, r1, r2, r3]) rfl ⟨A1, n + 1, c1, A2, c2, rfl, Nat.le_refl _, ⟨⟨ks ++ [k], by
      have := HF.out.1
      simpa [kts] using this⟩, ⟨L ++ [⟨qs, qA, qn, qc⟩], by
      have := HF.out.2.1
      rw [cat_append]
      exact this, fun q hq => ?_⟩, HF.out.2.2.2.1⟩, HF.out.2.2.2.2.2⟩
    rcases List.mem_append.1 hq with hq | hq
    · exact HF.out.2.2.1 q hq
    · rw [List.mem_singleton.1 hq]
      exact HF.out.2.2.2.2.1
end
section
set_option linter.unusedVariables false
open Go.RowKit
def inR (z : Int) : Bool := decide (-1099511627776 ≤ z) && decide (z ≤ 1099511627776)
theorem inR_abs {z : Int} (h : inR z = true) : z.natAbs ≤ 1099511627776 := by
  unfold inR at h
  simp only [Bool.and_eq_true, decide_eq_true_eq] at h
  omega
def okPart (p : Key × Int) : Bool := inR p.2 && decide (p.1.length ≤ 40) && namedM p.1
def okM (ps : List (Key × Int)) (rest : Int) : Bool := decide (ps.length ≤ 12) && inR rest && ps.all okPart
def oneM (p : Key × Int) : List (Key × Int) := addM [] [(p.1, 1)] p.2
def addP (fs : List (Key × Int)) (p : Key × Int) : List (Key × Int) := addM fs (oneM p) 1
def sumM (ps : List (Key × Int)) : List (Key × Int) := ps.foldl addP []
theorem sumM_next {ps : List (Key × Int)} {i : Nat} {p : Key × Int} (h : ps[i]? = some p) : sumM (ps.take (i + 1)) = addP (sumM (ps.take i)) p := by
  unfold sumM
  rw [List.take_add_one, h, List.foldl_append]
  rfl
theorem oneM_len (p : Key × Int) : (oneM p).length ≤ 1 := by
  have := addM_len (n := p.2) [(p.1, 1)] []
  simpa [oneM] using this
theorem oneM_upto (p : Key × Int) : Upto p.2.natAbs (oneM p) := by
  have h := addStep_upto (K := 0) (M := p.2.natAbs) (n := p.2) (g := (p.1, 1)) (Upto.nil 0) (by simp)
  rw [Nat.zero_add] at h
  exact h
theorem addP_len (fs : List (Key × Int)) (p : Key × Int) : (addP fs p).length ≤ fs.length + 1 := by
  have h1 := addM_len (n := 1) (oneM p) fs
  have h2 := oneM_len p
  unfold addP
  omega
theorem addP_upto {K M : Nat} {fs : List (Key × Int)} {p : Key × Int} (h : Upto K fs) (hM : p.2.natAbs ≤ M) : Upto (K + M) (addP fs p) := by
  have h1 := oneM_len p
  have h2 := oneM_upto p
  unfold addP
  match e : oneM p with
  | [] => exact h.le (Nat.le_add_right _ _)
  | [g] =>
    have hg : (g.2 * 1).natAbs ≤ M := by
      have := h2 g (by rw [e]; exact List.mem_singleton.2 rfl)
      rw [Int.mul_one]
      omega
    exact addStep_upto h hg
  | _ :: _ :: _ => rw [e] at h1; simp at h1
theorem sumM_len (ps : List (Key × Int)) : ∀ i, i ≤ ps.length → (sumM (ps.take i)).length ≤ i := by
  intro i
  induction i with
  | zero => intro _; simp [sumM]
  | succ i ih =>
    intro h
    have hi : ps[i]? = some ps[i] := List.getElem?_eq_getElem (by omega)
    rw [sumM_next hi]
    have := addP_len (sumM (ps.take i)) ps[i]
    have := ih (by omega)
    omega
theorem sumM_upto {ps : List (Key × Int)} {M : Nat} : ∀ i, i ≤ ps.length → (∀ p ∈ ps.take i, p.2.natAbs ≤ M) → Upto (i * M) (sumM (ps.take i)) := by
  intro i
  induction i with
  | zero => intro _ _; simp only [List.take_zero, Nat.zero_mul]; exact Upto.nil 0
  | succ i ih =>
    intro h hM
    have hi : ps[i]? = some ps[i] := List.getElem?_eq_getElem (by omega)
    rw [sumM_next hi, Nat.succ_mul]
    have hmem : ps[i] ∈ ps.take (i + 1) := by
      rw [List.take_add_one, hi]
      exact List.mem_append_right _ (List.mem_singleton.2 rfl)
    refine addP_upto (ih (by omega) fun p hp => hM p ?_) (hM _ hmem)
    rw [List.take_add_one]
    exact List.mem_append_left _ hp
theorem okM_stop {ps : List (Key × Int)} {rest : Int} {i : Nat} {p : Key × Int} (h : ps[i]? = some p) (hp : okPart p = false) : okM ps rest = false := by
  unfold okM
  have : ps.all okPart = false := by
    rw [List.all_eq_false]
    exact ⟨p, List.mem_of_getElem? h, by simp [hp]⟩
  simp [this]
theorem okM_all {ps : List (Key × Int)} {rest : Int} (hl : ps.length ≤ 12) (hr : inR rest = true) (h : ∀ p ∈ ps, okPart p = true) : okM ps rest = true := by
  unfold okM
  simp only [Bool.and_eq_true, decide_eq_true_eq, List.all_eq_true]
  exact ⟨⟨hl, hr⟩, h⟩
def partCells (p : Key × Int) : List Value := [.string ⟨p.1.toArray⟩, .int .i64 p.2]
theorem partCells_len (p : Key × Int) : (partCells p).length = 2 := rfl
theorem rfrom_int (z : Int) (w : World) (h1 : -9223372036854775808 ≤ z) (h2 : z ≤ 9223372036854775807) :
    Calls Tryz.prog 44 #[.int .i64 z] w fun e w' => ∃ v y, e = .returned v ∧ RZ w' v y ∧ y.natAbs ≤ z.natAbs ∧ Pu w w' := by
  by_cases h : z = -9223372036854775808
  · subst h
    refine (rfrom_min w).mono ?_
    rintro e w' ⟨v, rfl, h3, p⟩
    exact ⟨v, 0, rfl, h3, Nat.zero_le _, p⟩
  · refine (rfrom_any z w (by omega)).mono ?_
    rintro e w' ⟨v, rfl, h3, p⟩
    exact ⟨v, z, rfl, h3, Nat.le_refl _, p⟩
end
end Go.Proofs.YtckfnbckoclhpaaGreatDoor
