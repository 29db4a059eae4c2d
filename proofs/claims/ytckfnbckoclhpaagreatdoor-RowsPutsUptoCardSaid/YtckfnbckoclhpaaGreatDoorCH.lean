/- A region that draws its order: loads taken first while a condition `S` holds; the last operations (from number `n` on, a forced chain) need not keep `S`. The document's terms: Plus is in bounds and ends (printed by mkrplus.py). -/
import Derived.Deep.RegionHeld3
import Derived.StillTail
import Derived.Lib.Hide
namespace Go.Proofs.YtckfnbckoclhpaaGreatDoor
section
open Go.RowKit
section
variable {P : Program} {ops : Array Oper} {Q : Exit → Act → World → Prop} {md : Region.Mode} {S : World → Prop} {n : Nat}
def wpAnyX (P : Program) (md : Region.Mode) (ops : Array Oper) (Q : Exit → Act → World → Prop) (S : World → Prop) (n : Nat) : Nat → Array Bool → Act → World → Prop
  | 0, listed, a, w => Region.ready md ops listed = [] ∧ Q .normal a w
  | fuel + 1, listed, a, w =>
    (Region.ready md ops listed = [] → Q .normal a w) ∧
    ∀ i ∈ Region.ready md ops listed, wpOp P ops Q i (fun a' w' => (i < n → S w') ∧ wpAnyX P md ops Q S n fuel (listed.setIfInBounds i true) a' w') a w
theorem wpAny_of_X : ∀ (fuel : Nat) (listed : Array Bool) (a : Act) (w : World), wpAnyX P md ops Q S n fuel listed a w → wpAny P md ops Q fuel listed a w
  | 0, _, _, _, h => h
  | fuel + 1, _, _, _, h => ⟨h.1, fun i hi => wpOp_mono (fun a' w' h' => wpAny_of_X fuel _ a' w' h'.2) (h.2 i hi)⟩
theorem wpAnyX_first {i : Nat} {oi : Oper} {v : Value} (hi : ops[i]? = some oi) (hsel : ∀ (j : Nat) (o : Oper) cs b, ops[j]? = some o → o.op ≠ .select cs b)
    (hs : Region.sinkB md ops n = true) (hc : Region.chainB md ops n = true) (hn : n < ops.size) (hin : i < n)
    (hQ : ∀ c a w, Q (.panic c) (a.put oi.dst v) w → Q (.panic c) a w) :
    ∀ (fuel : Nat) (listed : Array Bool) (a : Act) (w : World), HeadInv md ops n listed →
      (∀ j oj, ops[j]? = some oj → j ≠ i → listed.getD j true = false → (∀ e ∈ oj.after, Region.binds md e = true → e.on ≠ i) → oi.apart ops oj = true) →
      i ∈ Region.ready md ops listed → YieldsIf P ops S oi v a → S w →
      wpAnyX P md ops Q S n fuel (listed.setIfInBounds i true) (a.put oi.dst v) w → wpAnyX P md ops Q S n (fuel + 1) listed a w := by
  intro fuel
  induction fuel with
  | zero =>
    intro listed a w _ _ hr hy hS H
    refine ⟨fun h => (by rw [h] at hr; cases hr), fun j hj => ?_⟩
    by_cases hji : j = i
    · subst hji; exact hy.wpOp hi hS ⟨fun _ => hS, H⟩
    · have := ready_mono hj hji
      rw [H.1] at this
      cases this
  | succ fuel ih =>
    intro listed a w inv hfree hr hy hS H
    refine ⟨fun h => (by rw [h] at hr; cases hr), fun j hj => ?_⟩
    by_cases hji : j = i
    · subst hji; exact hy.wpOp hi hS ⟨fun _ => hS, H⟩
    · have h1 := H.2 j (ready_mono hj hji)
      have hjn : j < n := by
        rcases Nat.lt_or_ge j n with h | h
        · exact h
        · exact absurd hj (tail_waits hs hc hn inv _ i rfl hin (mem_ready.1 hr).1 j h)
      obtain ⟨hjun, oj, hoj, hall⟩ := mem_ready.1 hj
      have hnot : ∀ e ∈ oj.after, Region.binds md e = true → e.on ≠ i := fun e he hb heq => by
        have h1 := hall e he hb
        have h0 := (mem_ready.1 hr).1
        rw [heq, getD_both h0] at h1
        cases h1
      have h2 := wpOp_putIf hoj (hfree j oj hoj hji hjun hnot) (fun cs b => hsel i oi cs b hi) (fun cs b => hsel j oj cs b hoj) hQ hy h1
      have hfree' : ∀ k ok, ops[k]? = some ok → k ≠ i → (listed.setIfInBounds j true).getD k true = false →
          (∀ e ∈ ok.after, Region.binds md e = true → e.on ≠ i) → oi.apart ops ok = true := fun k ok hk hki hun hno => by
        refine hfree k ok hk hki ?_ hno
        by_cases hjk : j = k
        · subst hjk; exact hjun
        · rw [getD_set_ne true hjk] at hun; exact hun
      refine wpOp_mono (fun a' w' h3 => ⟨h3.2.1, ih (listed.setIfInBounds j true) a' w' (inv.set hj hjn) hfree' (ready_mono hr (Ne.symm hji)) h3.1 (h3.2.1 hjn) ?_⟩) h2
      rw [Array.setIfInBounds_comm _ _ hji]
      exact h3.2.2
theorem wpAnyX_of_seq : ∀ (l : List Oper) (k : Nat) (listed : Array Bool) (a : Act) (w : World), n ≤ k → (∀ j, l[j]? = ops[k + j]?) →
    Region.seqB md ops l.length k listed = true → wpList P ops Q l a w → wpAnyX P md ops Q S n l.length listed a w
  | [], _, _, _, _, _, _, hB, h => ⟨by simpa [Region.seqB] using hB, h⟩
  | o :: l, k, listed, a, w, hnk, hl, hB, h => by
    have h0 : ops[k]? = some o := by simpa using (hl 0).symm
    simp only [List.length_cons, Region.seqB, Bool.and_eq_true, decide_eq_true_eq] at hB
    refine ⟨fun h1 => (by rw [hB.1] at h1; cases h1), fun i hi => ?_⟩
    rw [hB.1] at hi
    have hik : i = k := by simpa using hi
    subst hik
    have hw : wpOp P ops Q i (wpList P ops Q l) a w := by unfold wpOp; simp only [h0]; exact h
    exact wpOp_mono (fun a' w' h' => ⟨fun hlt => absurd hlt (by omega), wpAnyX_of_seq l (i + 1) _ a' w' (by omega) (fun j => by have := hl (j + 1); simpa [Nat.add_assoc, Nat.add_comm 1 j] using this) hB.2 h'⟩) hw
theorem oper_at {ops : Array Oper} {i : Nat} {o : Oper} {l : List Oper} (h : ops.toList.drop i = o :: l) : ops[i]? = some o := by
  have := congrArg (·[0]?) h
  simpa using this
def wpX (P : Program) (md : Region.Mode) (ops : Array Oper) (Q : Exit → Act → World → Prop) (S : World → Prop) (n fuel : Nat) (listed : Array Bool) (a : Act) (w : World) : Prop :=
  HeadInv md ops n listed → S w → wpAnyX P md ops Q S n fuel listed a w
def Region.tailB (md : Region.Mode) (ops : Array Oper) (n : Nat) : Bool :=
  Region.noSelect ops && decide (n < ops.size) && Region.sinkB md ops n && Region.chainB md ops n
theorem wpX_take (i : Nat) {oi : Oper} {v : Value} {fuel : Nat} {listed : Array Bool} {a : Act} {w : World} (hB : Region.tailB md ops n = true) {l : List Oper} (hi' : ops.toList.drop i = oi :: l)
    (hf : (decide (i < n) && Region.free md ops listed i && (Region.ready md ops listed).contains i) = true)
    (hQ : ∀ c a w, Q (.panic c) (a.put oi.dst v) w → Q (.panic c) a w) (hy : YieldsIf P ops S oi v a)
    (h : wpX P md ops Q S n fuel (listed.setIfInBounds i true) (a.put oi.dst v) w) : wpX P md ops Q S n (fuel + 1) listed a w := by
  have hi : ops[i]? = some oi := oper_at hi'
  simp only [Region.tailB, Bool.and_eq_true, decide_eq_true_eq] at hB hf
  obtain ⟨⟨⟨hsel, hn⟩, hs⟩, hc⟩ := hB
  obtain ⟨⟨hin, hf⟩, hr⟩ := hf
  have hr' : i ∈ Region.ready md ops listed := by simpa using hr
  exact fun inv hS => wpAnyX_first hi (Region.noSelect_spec hsel) hs hc hn hin hQ fuel listed a w inv (Region.free_spec hi hf) hr' hy hS (h (inv.set hr' hin) hS)
theorem wpX_one (k : Nat) {o : Oper} {fuel : Nat} {listed : Array Bool} {a : Act} {w : World} (hr : Region.ready md ops listed = [k]) {l : List Oper} (hk : ops.toList.drop k = o :: l) (hkn : k < n)
    (h : ∀ K : Act → World → Prop, Shut (∀ a' w', S w' → wpX P md ops Q S n fuel (listed.setIfInBounds k true) a' w' → K a' w') →
      if Region.wanted o (yielded ops a.tmps) = true then Oper.wp P o a w K Q else K (a.put o.dst undef) w) :
    wpX P md ops Q S n (fuel + 1) listed a w := by
  intro inv hS
  refine ⟨fun h0 => (by rw [hr] at h0; cases h0), fun i hi => ?_⟩
  rw [hr] at hi
  have hik : i = k := by simpa using hi
  subst hik
  refine wpOp_step (oper_at hk) fun K hK => h K (fun a' w' hS' hX => hK a' w' ?_)
  exact ⟨fun _ => hS', hX (inv.set (by rw [hr]; simp) hkn) hS'⟩
theorem wpX_two (i j : Nat) {oi oj : Oper} {fuel : Nat} {listed : Array Bool} {a : Act} {w : World} (hr : Region.ready md ops listed = [i, j]) {l l' : List Oper} (hi : ops.toList.drop i = oi :: l) (hj : ops.toList.drop j = oj :: l') (hin : i < n) (hjn : j < n)
    (h1 : ∀ K : Act → World → Prop, Shut (∀ a' w', S w' → wpX P md ops Q S n fuel (listed.setIfInBounds i true) a' w' → K a' w') →
      if Region.wanted oi (yielded ops a.tmps) = true then Oper.wp P oi a w K Q else K (a.put oi.dst undef) w)
    (h2 : ∀ K : Act → World → Prop, Shut (∀ a' w', S w' → wpX P md ops Q S n fuel (listed.setIfInBounds j true) a' w' → K a' w') →
      if Region.wanted oj (yielded ops a.tmps) = true then Oper.wp P oj a w K Q else K (a.put oj.dst undef) w) :
    wpX P md ops Q S n (fuel + 1) listed a w := by
  intro inv hS
  refine ⟨fun h0 => (by rw [hr] at h0; cases h0), fun k hk => ?_⟩
  rw [hr] at hk
  have hk' : k = i ∨ k = j := by simpa using hk
  rcases hk' with rfl | rfl
  · refine wpOp_step (oper_at hi) fun K hK => h1 K (fun a' w' hS' hX => hK a' w' ?_)
    exact ⟨fun _ => hS', hX (inv.set (by rw [hr]; simp) hin) hS'⟩
  · refine wpOp_step (oper_at hj) fun K hK => h2 K (fun a' w' hS' hX => hK a' w' ?_)
    exact ⟨fun _ => hS', hX (inv.set (by rw [hr]; simp) hjn) hS'⟩
def AllX (P : Program) (md : Region.Mode) (ops : Array Oper) (Q : Exit → Act → World → Prop) (S : World → Prop) (n fuel : Nat) (listed : Array Bool) (a : Act) (w : World) (rs : List Nat) : Prop :=
  ∀ i ∈ rs, i < n ∧ ∀ K : Act → World → Prop, (∀ a' w', S w' → wpX P md ops Q S n fuel (listed.setIfInBounds i true) a' w' → K a' w') → wpOp P ops Q i K a w
theorem AllX.nil {fuel : Nat} {listed : Array Bool} {a : Act} {w : World} : AllX P md ops Q S n fuel listed a w [] := fun _ h => by cases h
theorem AllX.cons {fuel : Nat} {listed : Array Bool} {a : Act} {w : World} {i : Nat} {o : Oper} {l : List Oper} {rs : List Nat} (hi : ops.toList.drop i = o :: l) (hin : i < n)
    (h : ∀ K : Act → World → Prop, Shut (∀ a' w', S w' → wpX P md ops Q S n fuel (listed.setIfInBounds i true) a' w' → K a' w') →
      if Region.wanted o (yielded ops a.tmps) = true then Oper.wp P o a w K Q else K (a.put o.dst undef) w)
    (hs : AllX P md ops Q S n fuel listed a w rs) : AllX P md ops Q S n fuel listed a w (i :: rs) := fun j hj => by
  rcases List.mem_cons.1 hj with rfl | hj
  · exact ⟨hin, fun K hK => wpOp_step (oper_at hi) fun K' hK' => h K' (fun a' w' hS' hX => hK' a' w' (hK a' w' hS' hX))⟩
  · exact hs j hj
theorem wpX_any {rs : List Nat} {fuel : Nat} {listed : Array Bool} {a : Act} {w : World} (hr : Region.ready md ops listed = rs) (hne : rs ≠ [])
    (h : AllX P md ops Q S n fuel listed a w rs) : wpX P md ops Q S n (fuel + 1) listed a w := by
  intro inv hS
  refine ⟨fun h0 => (by rw [hr] at h0; exact absurd h0 hne), fun i hi => ?_⟩
  have hi' := hi
  rw [hr] at hi'
  obtain ⟨hin, hk⟩ := h i hi'
  exact hk _ fun a' w' hS' hX => ⟨fun _ => hS', hX (inv.set hi hin) hS'⟩
theorem wpX_at {fuel : Nat} {listed : Array Bool} (l' : Array Bool) {a : Act} {w : World} (e : listed = l') (h : wpX P md ops Q S n fuel l' a w) : wpX P md ops Q S n fuel listed a w := e ▸ h
theorem wpX_tail {l : List Oper} {m : Nat} {listed : Array Bool} {a : Act} {w : World} (hl : (ops.toList.drop n) = l) (hm : l.length = m) (hB : Region.seqB md ops m n listed = true)
    (h : wpList P ops Q l a w) : wpX P md ops Q S n m listed a w := by
  subst hm
  exact fun _ _ => wpAnyX_of_seq l n listed a w (Nat.le_refl _) (fun j => by subst hl; simp [List.getElem?_drop]) hB h
theorem wpX_tail2 {o1 o2 : Oper} {listed : Array Bool} {a : Act} {w : World} (hl : (ops.toList.drop n) = o1 :: o2 :: []) (hB : Region.seqB md ops 2 n listed = true)
    (h : wpList P ops Q [o1, o2] a w) : wpX P md ops Q S n 2 listed a w := wpX_tail hl rfl hB h
theorem wp_region_X {id : Nat} {a : Act} {w : World} (n : Nat) (S : World → Prop) (hm : P.follows .mixedOrders = true) (hS : S w.drew)
    (h : wpX P .any ops Q S n ops.size (Array.replicate ops.size false) a w.drew) : (Code.region id ops true).wp P Q a w := by
  have inv0 : HeadInv .any ops n (Array.replicate ops.size false) :=
    ⟨by simp, fun j oj _ hl => (by rw [getD_replicate_false] at hl; cases hl), fun t _ ht => getD_in (by simpa using ht) (getD_replicate_false _ _)⟩
  exact wp_region_any hm (wpAny_of_X _ _ _ _ (h inv0 hS))
theorem wp_region_Xn {id : Nat} {a : Act} {w : World} (n : Nat) (S : World → Prop) (hm : P.follows .mixedOrders = true) (hS : S w.drew)
    (h : ∀ (O : Array Oper) (R : Exit → Act → World → Prop), Hid (O = ops) → Hid (R = Q) → wpX P .any O R S n O.size (Array.replicate O.size false) a w.drew) : (Code.region id ops true).wp P Q a w :=
  wp_region_X n S hm hS (h ops Q (Lib.hid rfl) (Lib.hid rfl))
end
end
end Go.Proofs.YtckfnbckoclhpaaGreatDoor
