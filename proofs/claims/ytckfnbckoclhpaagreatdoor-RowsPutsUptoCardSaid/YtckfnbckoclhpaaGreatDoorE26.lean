/- A region that draws its order, all of whose head operations are stable: what one has done stays done behind the others. Each operation is met once, whatever the orders; the last operations (from number `n` on) are a forced chain. Sum.Both: what it computes (NOT FINISHED: to region 1). -/
import Derived.Test.YtckfnbckoclhpaaGreatDoorCH
import Derived.Test.YtckfnbckoclhpaaGreatDoorC01
import Derived.Test.YtckfnbckoclhpaaGreatDoorE24
import Derived.Test.YtckfnbckoclhpaaGreatDoorE25
import Derived.Deep.RegionHeld3
import Derived.Deep.QuietTactic
namespace Go.Proofs.YtckfnbckoclhpaaGreatDoor
section
open Go.RowKit
def upd (y : Nat → Value) (i : Nat) (v : Value) : Nat → Value := fun j => if j = i then v else y j
theorem upd_same (y : Nat → Value) (i : Nat) (v : Value) : upd y i v i = v := by simp [upd]
theorem upd_ne {y : Nat → Value} {i j : Nat} {v : Value} (h : j ≠ i) : upd y i v j = y j := by simp [upd, h]
def Region.backB (md : Region.Mode) (ops : Array Oper) : Bool :=
  (List.range ops.size).all fun i => match ops[i]? with
    | some o => o.after.all fun e => !Region.binds md e || decide (e.on < i)
    | none => true
def Region.beforeB (md : Region.Mode) (ops : Array Oper) : Nat → Nat → Nat → Bool
  | 0, _, _ => false
  | f + 1, i, j => match ops[i]? with
    | some o => o.after.any fun e => Region.binds md e && (e.on == j || Region.beforeB md ops f e.on j)
    | none => false
section
variable {P : Program} {ops : Array Oper} {Q : Exit → Act → World → Prop} {md : Region.Mode} {n : Nat}
theorem wpAny_more : ∀ (f : Nat) (listed : Array Bool) (a : Act) (w : World), wpAny P md ops Q f listed a w → wpAny P md ops Q (f + 1) listed a w
  | 0, listed, a, w, h => ⟨fun _ => h.2, fun i hi => (by rw [h.1] at hi; cases hi)⟩
  | f + 1, listed, a, w, h => ⟨h.1, fun i hi => wpOp_mono (fun a' w' h' => wpAny_more f _ a' w' h') (h.2 i hi)⟩
theorem wpAny_more' {f : Nat} {listed : Array Bool} {a : Act} {w : World} (h : wpAny P md ops Q f listed a w) : ∀ k, wpAny P md ops Q (k + f) listed a w
  | 0 => by rw [Nat.zero_add]; exact h
  | k + 1 => by rw [show k + 1 + f = (k + f) + 1 by omega]; exact wpAny_more _ _ _ _ (wpAny_more' h k)
theorem before_listed {listed : Array Bool} (inv : HeadInv md ops n listed) : ∀ (f i j : Nat) (o : Oper), ops[i]? = some o → (∀ e ∈ o.after, Region.binds md e = true → listed.getD e.on false = true) →
    Region.beforeB md ops f i j = true → listed.getD j false = true
  | 0, _, _, _, _, _, h => by simp [Region.beforeB] at h
  | f + 1, i, j, o, ho, hall, h => by
    simp only [Region.beforeB, ho] at h
    obtain ⟨e, he, h1⟩ := Array.any_eq_true'.1 h
    simp only [Bool.and_eq_true, Bool.or_eq_true, beq_iff_eq] at h1
    obtain ⟨hb, h2⟩ := h1
    have hl := hall e he hb
    rcases h2 with h2 | h2
    · rw [← h2]; exact hl
    · cases hoe : ops[e.on]? with
      | none => cases f <;> simp [Region.beforeB, hoe] at h2
      | some oe => exact before_listed inv f e.on j oe hoe (inv.closed e.on oe hoe hl) h2
theorem some_ready (hback : Region.backB md ops = true) {listed : Array Bool} (hs : listed.size = ops.size) : ∀ (i : Nat), i < ops.size → listed.getD i true = false → ∃ k, k ∈ Region.ready md ops listed := by
  intro i
  induction i using Nat.strongRecOn with
  | _ i ih =>
    intro hi hun
    by_cases h : ∃ k, k < i ∧ listed.getD k true = false
    · obtain ⟨k, hk, hku⟩ := h
      exact ih k hk (by omega) hku
    · refine ⟨i, mem_ready.2 ⟨hun, ops[i], Array.getElem?_eq_getElem hi, fun e he hb => ?_⟩⟩
      have h1 := List.all_eq_true.1 hback i (List.mem_range.2 hi)
      rw [Array.getElem?_eq_getElem hi] at h1
      have h2 := Array.all_eq_true_iff_forall_mem.1 h1 e he
      simp only [hb, Bool.not_true, Bool.false_or, decide_eq_true_eq] at h2
      have h3 : listed.getD e.on true ≠ false := fun hh => h ⟨e.on, h2, hh⟩
      have hlt : e.on < listed.size := by omega
      simp [hlt] at h3 ⊢
      exact h3
variable {I : (Nat → Bool) → World → Prop} {R : Nat → World → World → Prop} {F : Nat → Value → World → Prop} {mk : (Nat → Value) → Act}
def StepsS (P : Program) (md : Region.Mode) (ops : Array Oper) (Q : Exit → Act → World → Prop) (n : Nat) (I : (Nat → Bool) → World → Prop) (R : Nat → World → World → Prop) (F : Nat → Value → World → Prop) (mk : (Nat → Value) → Act) (i : Nat) : Prop :=
  ∀ k, i ≤ k → k < n → ∀ (y : Nat → Value) (L : Nat → Bool) (w : World), L k = false → I L w → (∀ j, j < n → Region.beforeB md ops n k j = true → F j (y j) w) →
    wpOp P ops Q k (fun a' w' => ∃ v, a' = mk (upd y k v) ∧ R k w w' ∧ F k v w') (mk y) w
theorem StepsS.nil : StepsS P md ops Q n I R F mk n := fun _ h1 h2 => absurd h1 (by omega)
theorem StepsS.cons {i : Nat} {o : Oper} {l : List Oper} (ps : List Nat) (hi : ops.toList.drop i = o :: l) (hps : (ps.all fun j => decide (j < n) && Region.beforeB md ops n i j) = true)
    (h : ∀ (y : Nat → Value) (L : Nat → Bool) (w : World), L i = false → I L w → (∀ j ∈ ps, F j (y j) w) → ∀ K : Act → World → Prop, Shut (∀ v w', R i w w' → F i v w' → K (mk (upd y i v)) w') →
      if Region.wanted o (yielded ops (mk y).tmps) = true then Oper.wp P o (mk y) w K Q else K ((mk y).put o.dst undef) w)
    (hs : StepsS P md ops Q n I R F mk (i + 1)) : StepsS P md ops Q n I R F mk i := fun k hik hkn y L w hLk hR hF => by
  by_cases hki : k = i
  · subst hki
    refine wpOp_step (oper_at hi) fun K hK => h y L w hLk hR (fun j hj => ?_) K (fun v w' h1 h2 => hK _ _ ⟨v, rfl, h1, h2⟩)
    have := List.all_eq_true.1 hps j hj
    simp only [Bool.and_eq_true, decide_eq_true_eq] at this
    exact hF j this.1 this.2
  · exact hs k (by omega) hkn y L w hLk hR hF
theorem wpAny_stable (hback : Region.backB md ops = true) (hn : n ≤ ops.size) (hsink : n < ops.size → Region.sinkB md ops n = true ∧ Region.chainB md ops n = true)
    (hI : ∀ k L w w', k < n → L k = false → I L w → R k w w' → I (fun j => if j = k then true else L j) w') (hF : ∀ i k v w w', i < n → k < n → i ≠ k → F i v w → R k w w' → F i v w')
    (hop : StepsS P md ops Q n I R F mk 0)
    (hend : ∀ (y : Nat → Value) (w : World) (L : Nat → Bool) (listed : Array Bool), listed = (List.replicate n true ++ List.replicate (ops.size - n) false).toArray → (∀ j, j < n → L j = true) → I L w → (∀ j, j < n → F j (y j) w) → wpAny P md ops Q (ops.size - n) listed (mk y) w) :
    ∀ (m : Nat) (l : List Nat) (listed : Array Bool) (y : Nat → Value) (w : World), l.length ≤ m → HeadInv md ops n listed → (∀ j, j < n → listed.getD j true = false → j ∈ l) → I (fun j => listed.getD j false) w →
      (∀ j, j < n → listed.getD j false = true → F j (y j) w) → wpAny P md ops Q (m + (ops.size - n)) listed (mk y) w := by
  have done : ∀ (listed : Array Bool) (y : Nat → Value) (w : World), HeadInv md ops n listed → (∀ j, j < n → listed.getD j true = true) → I (fun j => listed.getD j false) w →
      (∀ j, j < n → listed.getD j false = true → F j (y j) w) → wpAny P md ops Q (ops.size - n) listed (mk y) w := by
    intro listed y w inv hall hR hFl
    have hall' : ∀ j, j < n → listed.getD j false = true := fun j hj => by
      have := hall j hj
      have hlt : j < listed.size := by rw [inv.size]; omega
      simp [hlt] at this ⊢
      exact this
    refine hend y w _ listed ?_ hall' hR fun j hj => hFl j hj (hall' j hj)
    · apply Array.ext
      · simp [inv.size]; omega
      · intro j h1 h2
        by_cases hj : j < n
        · have := hall j hj
          simp only [List.getElem_toArray]
          rw [List.getElem_append_left (by simpa using hj)]
          simpa [h1] using this
        · have := inv.tail j (by omega) (by rw [← inv.size]; exact h1)
          simp only [List.getElem_toArray]
          rw [List.getElem_append_right (by simpa using hj)]
          simpa [h1] using this
  intro m
  induction m with
  | zero =>
    intro l listed y w hl inv hun hR hFl
    rw [Nat.zero_add]
    refine done listed y w inv (fun j hj => ?_) hR hFl
    cases h : listed.getD j true with
    | true => rfl
    | false =>
      have := hun j hj h
      rw [List.length_eq_zero_iff.1 (Nat.le_zero.1 hl)] at this
      cases this
  | succ m ih =>
    intro l listed y w hl inv hun hR hFl
    by_cases hall : ∀ j, j < n → listed.getD j true = true
    · exact wpAny_more' (done listed y w inv hall hR hFl) (m + 1)
    · have hex : ∃ j, j < n ∧ listed.getD j true = false := by
        refine Classical.byContradiction fun hno => hall fun j hj => ?_
        cases h : listed.getD j true with
        | true => rfl
        | false => exact absurd ⟨j, hj, h⟩ hno
      obtain ⟨j0, hj0, hu0⟩ := hex
      rw [show m + 1 + (ops.size - n) = (m + (ops.size - n)) + 1 by omega]
      refine ⟨fun h0 => ?_, fun i hi => ?_⟩
      · obtain ⟨k, hk⟩ := some_ready hback inv.size j0 (by omega) hu0
        rw [h0] at hk
        cases hk
      · have hin : i < n := by
          rcases Nat.lt_or_ge i n with h | h
          · exact h
          · have hlt : i < ops.size := by
              obtain ⟨_, o, ho, _⟩ := mem_ready.1 hi
              exact (Array.getElem?_eq_some_iff.1 ho).1
            obtain ⟨hs, hc⟩ := hsink (by omega)
            exact absurd hi (tail_waits hs hc (by omega) inv _ j0 rfl hj0 hu0 i h)
        obtain ⟨hiun, o, ho, hafter⟩ := mem_ready.1 hi
        refine wpOp_mono ?_ (hop i (Nat.zero_le _) hin y _ w (getD_both hiun) hR fun j hj hb => hFl j hj (before_listed inv n i j o ho hafter hb))
        rintro a' w' ⟨v, rfl, hRw, hFv⟩
        have hLset : (fun j => (listed.setIfInBounds i true).getD j false) = fun j => if j = i then true else listed.getD j false := by
          funext j
          by_cases hji : j = i
          · subst hji
            have hlt : j < listed.size := by rw [inv.size]; omega
            simp [hlt]
          · rw [getD_set_ne false (Ne.symm hji), if_neg hji]
        refine ih (l.erase i) _ _ w' ?_ (inv.set hi hin) ?_ (by rw [hLset]; exact hI i _ _ _ hin (getD_both hiun) hR hRw) ?_
        · rw [List.length_erase_of_mem (hun i hin hiun)]; omega
        · intro j hj hju
          have hji : j ≠ i := by
            rintro rfl
            have hlt : j < listed.size := by rw [inv.size]; omega
            simp [hlt] at hju
          rw [getD_set_ne true (Ne.symm hji)] at hju
          exact (List.mem_erase_of_ne hji).2 (hun j hj hju)
        · intro j hj hjl
          by_cases hji : j = i
          · subst hji
            rw [upd_same]
            exact hFv
          · rw [upd_ne hji]
            rw [getD_set_ne false (Ne.symm hji)] at hjl
            exact hF j i _ _ _ hj hin hji (hFl j hj hjl) hRw
theorem wp_region_stable {id : Nat} {w : World} (n : Nat) (I : (Nat → Bool) → World → Prop) (R : Nat → World → World → Prop) (F : Nat → Value → World → Prop) (mk : (Nat → Value) → Act) (y0 : Nat → Value) (l : List Oper)
    (hm : P.follows .mixedOrders = true)
    (hB : (Region.backB .any ops && Region.sinkB .any ops n && Region.chainB .any ops n && decide (n < ops.size) && Region.seqB .any ops (ops.size - n) n (List.replicate n true ++ List.replicate (ops.size - n) false).toArray) = true)
    (hl : ops.toList.drop n = l)
    (h0 : I (fun _ => false) w.drew) (hI : ∀ k L u u', k < n → L k = false → I L u → R k u u' → I (fun j => if j = k then true else L j) u') (hF : ∀ i k v u u', i < n → k < n → i ≠ k → F i v u → R k u u' → F i v u')
    (hop : StepsS P .any ops Q n I R F mk 0)
    (hend : ∀ (y : Nat → Value) (w' : World) (L : Nat → Bool), (∀ j, j < n → L j = true) → I L w' → (∀ j, j < n → F j (y j) w') → wpList P ops Q l (mk y) w') :
    (Code.region id ops true).wp P Q (mk y0) w := by
  simp only [Bool.and_eq_true, decide_eq_true_eq] at hB
  obtain ⟨⟨⟨⟨hback, hs⟩, hc⟩, hn⟩, hq⟩ := hB
  refine wp_region_any hm ?_
  have inv0 : HeadInv .any ops n (Array.replicate ops.size false) :=
    ⟨by simp, fun j oj _ hl => (by rw [getD_replicate_false] at hl; cases hl), fun t _ ht => getD_in (by simpa using ht) (getD_replicate_false _ _)⟩
  have := wpAny_stable hback (Nat.le_of_lt hn) (fun _ => ⟨hs, hc⟩) hI hF hop (fun y w' L listed hlisted hL' hR' hF' => by
    subst hlisted
    have hlen : l.length = ops.size - n := by subst hl; simp
    have h1 := wpAnyX_of_seq (P := P) (Q := Q) (md := .any) (S := fun _ => True) (n := n) l n _ (mk y) w' (Nat.le_refl _) (fun j => by subst hl; simp [List.getElem?_drop]) (by rw [hlen]; exact hq) (hend y w' L hL' hR' hF')
    rw [hlen] at h1
    exact wpAny_of_X _ _ _ _ h1) n (List.range n) _ y0 w.drew (by simp) inv0 (fun j hj _ => List.mem_range.2 hj) (by rw [show (fun j => (Array.replicate ops.size false).getD j false) = fun _ => false from funext fun j => getD_replicate_false _ _]; exact h0) (fun j _ h => by rw [getD_replicate_false] at h; cases h)
  rw [show n + (ops.size - n) = ops.size by omega] at this
  exact this
theorem wp_region_stable0 {id : Nat} {w : World} (n : Nat) (I : (Nat → Bool) → World → Prop) (R : Nat → World → World → Prop) (F : Nat → Value → World → Prop) (mk : (Nat → Value) → Act) (y0 : Nat → Value)
    (hm : P.follows .mixedOrders = true)
    (hB : (Region.backB .any ops && decide (n = ops.size)) = true)
    (h0 : I (fun _ => false) w.drew) (hI : ∀ k L u u', k < n → L k = false → I L u → R k u u' → I (fun j => if j = k then true else L j) u') (hF : ∀ i k v u u', i < n → k < n → i ≠ k → F i v u → R k u u' → F i v u')
    (hop : StepsS P .any ops Q n I R F mk 0)
    (hend : ∀ (y : Nat → Value) (w' : World) (L : Nat → Bool), (∀ j, j < n → L j = true) → I L w' → (∀ j, j < n → F j (y j) w') → Q .normal (mk y) w') :
    (Code.region id ops true).wp P Q (mk y0) w := by
  simp only [Bool.and_eq_true, decide_eq_true_eq] at hB
  obtain ⟨hback, hn⟩ := hB
  refine wp_region_any hm ?_
  have inv0 : HeadInv .any ops n (Array.replicate ops.size false) :=
    ⟨by simp, fun j oj _ hl => (by rw [getD_replicate_false] at hl; cases hl), fun t _ ht => getD_in (by simpa using ht) (getD_replicate_false _ _)⟩
  have := wpAny_stable hback (Nat.le_of_eq hn) (fun h => absurd h (by omega)) hI hF hop (fun y w' L listed hlisted hL' hR' hF' => by
    rw [show ops.size - n = 0 by omega]
    refine ⟨?_, hend y w' L hL' hR' hF'⟩
    have hall : ∀ j, j < ops.size → listed.getD j true = true := by
      intro j hj
      subst hlisted
      have hjn : j < n := by omega
      simp [show ops.size - n = 0 by omega, hjn]
    refine List.eq_nil_iff_forall_not_mem.2 fun j hj => ?_
    obtain ⟨hun, o, ho, _⟩ := mem_ready.1 hj
    rw [hall j (Array.getElem?_eq_some_iff.1 ho).1] at hun
    cases hun) n (List.range n) _ y0 w.drew (by simp) inv0 (fun j hj _ => List.mem_range.2 hj) (by rw [show (fun j => (Array.replicate ops.size false).getD j false) = fun _ => false from funext fun j => getD_replicate_false _ _]; exact h0) (fun j _ h => by rw [getD_replicate_false] at h; cases h)
  rw [show n + (ops.size - n) = ops.size by omega] at this
  exact this
def putsL : List (Option Tmp) → Nat → (Nat → Value) → Act → Act
  | [], _, _, a => a
  | d :: ds, i, y, a => putsL ds (i + 1) y (a.put d (y i))
theorem put_same (a : Act) (d : Option Tmp) (v : Value) (h : ∀ t, d = some t → v = a.tmps.getD t undef) : a.put d v = a := by
  cases d with
  | none => rfl
  | some t =>
    have e := h t rfl
    subst e
    unfold Act.put
    simp only
    have : a.tmps.setIfInBounds t (a.tmps.getD t undef) = a.tmps := by
      apply Array.ext_getElem?
      intro i
      by_cases hi : t = i
      · subst hi
        rw [Array.getElem?_setIfInBounds_self]
        split
        · rename_i hlt
          simp [hlt]
        · rename_i hlt
          simp [hlt]
      · rw [Array.getElem?_setIfInBounds_ne hi]
    rw [this]
theorem putsL_same (a : Act) (y : Nat → Value) : ∀ (ds : List (Option Tmp)) (i : Nat), (∀ j t, ds[j]? = some (some t) → y (i + j) = a.tmps.getD t undef) → putsL ds i y a = a
  | [], _, _ => rfl
  | d :: ds, i, h => by
    unfold putsL
    rw [put_same a d (y i) (fun t ht => by
      subst ht
      simpa using h 0 t rfl)]
    exact putsL_same a y ds (i + 1) fun j t hj => by
      have := h (j + 1) t (by simpa using hj)
      rwa [show i + 1 + j = i + (j + 1) by omega]
def y0L (ds : List (Option Tmp)) (a : Act) : Nat → Value := fun i => match ds[i]? with
  | some (some t) => a.tmps.getD t undef
  | _ => undef
theorem putsL_y0 (ds : List (Option Tmp)) (a : Act) : putsL ds 0 (y0L ds a) a = a := putsL_same a _ ds 0 fun j t hj => by
  simp [y0L, hj]
section
variable {id : Nat} {w : World} {a : Act}
theorem wp_region_stableA1 {o1 : Oper} (n : Nat) (I : (Nat → Bool) → World → Prop) (R : Nat → World → World → Prop) (F : Nat → Value → World → Prop) (ds : List (Option Tmp)) (hm : P.follows .mixedOrders = true)
    (hB : (Region.backB .any ops && Region.sinkB .any ops n && Region.chainB .any ops n && decide (n < ops.size) && Region.seqB .any ops (ops.size - n) n (List.replicate n true ++ List.replicate (ops.size - n) false).toArray) = true)
    (hl : ops.toList.drop n = o1 :: [])
    (h0 : I (fun _ => false) w.drew) (hI : ∀ k L u u', k < n → L k = false → I L u → R k u u' → I (fun j => if j = k then true else L j) u') (hF : ∀ i k v u u', i < n → k < n → i ≠ k → F i v u → R k u u' → F i v u')
    (hop : StepsS P .any ops Q n I R F (fun y => putsL ds 0 y a) 0) (hend : ∀ (y : Nat → Value) (w' : World) (L : Nat → Bool), (∀ j, j < n → L j = true) → I L w' → (∀ j, j < n → F j (y j) w') → wpList P ops Q [o1] (putsL ds 0 y a) w') :
    (Code.region id ops true).wp P Q a w := by
  have h := wp_region_stable (id := id) n I R F (fun y => putsL ds 0 y a) (y0L ds a) _ hm hB hl h0 hI hF hop hend
  rwa [putsL_y0] at h
theorem wp_region_stableA2 {o1 o2 : Oper} (n : Nat) (I : (Nat → Bool) → World → Prop) (R : Nat → World → World → Prop) (F : Nat → Value → World → Prop) (ds : List (Option Tmp)) (hm : P.follows .mixedOrders = true)
    (hB : (Region.backB .any ops && Region.sinkB .any ops n && Region.chainB .any ops n && decide (n < ops.size) && Region.seqB .any ops (ops.size - n) n (List.replicate n true ++ List.replicate (ops.size - n) false).toArray) = true)
    (hl : ops.toList.drop n = o1 :: o2 :: [])
    (h0 : I (fun _ => false) w.drew) (hI : ∀ k L u u', k < n → L k = false → I L u → R k u u' → I (fun j => if j = k then true else L j) u') (hF : ∀ i k v u u', i < n → k < n → i ≠ k → F i v u → R k u u' → F i v u')
    (hop : StepsS P .any ops Q n I R F (fun y => putsL ds 0 y a) 0) (hend : ∀ (y : Nat → Value) (w' : World) (L : Nat → Bool), (∀ j, j < n → L j = true) → I L w' → (∀ j, j < n → F j (y j) w') → wpList P ops Q [o1, o2] (putsL ds 0 y a) w') :
    (Code.region id ops true).wp P Q a w := by
  have h := wp_region_stable (id := id) n I R F (fun y => putsL ds 0 y a) (y0L ds a) _ hm hB hl h0 hI hF hop hend
  rwa [putsL_y0] at h
theorem wp_region_stableA3 {o1 o2 o3 : Oper} (n : Nat) (I : (Nat → Bool) → World → Prop) (R : Nat → World → World → Prop) (F : Nat → Value → World → Prop) (ds : List (Option Tmp)) (hm : P.follows .mixedOrders = true)
    (hB : (Region.backB .any ops && Region.sinkB .any ops n && Region.chainB .any ops n && decide (n < ops.size) && Region.seqB .any ops (ops.size - n) n (List.replicate n true ++ List.replicate (ops.size - n) false).toArray) = true)
    (hl : ops.toList.drop n = o1 :: o2 :: o3 :: [])
    (h0 : I (fun _ => false) w.drew) (hI : ∀ k L u u', k < n → L k = false → I L u → R k u u' → I (fun j => if j = k then true else L j) u') (hF : ∀ i k v u u', i < n → k < n → i ≠ k → F i v u → R k u u' → F i v u')
    (hop : StepsS P .any ops Q n I R F (fun y => putsL ds 0 y a) 0) (hend : ∀ (y : Nat → Value) (w' : World) (L : Nat → Bool), (∀ j, j < n → L j = true) → I L w' → (∀ j, j < n → F j (y j) w') → wpList P ops Q [o1, o2, o3] (putsL ds 0 y a) w') :
    (Code.region id ops true).wp P Q a w := by
  have h := wp_region_stable (id := id) n I R F (fun y => putsL ds 0 y a) (y0L ds a) _ hm hB hl h0 hI hF hop hend
  rwa [putsL_y0] at h
theorem wp_region_stableA4 {o1 o2 o3 o4 : Oper} (n : Nat) (I : (Nat → Bool) → World → Prop) (R : Nat → World → World → Prop) (F : Nat → Value → World → Prop) (ds : List (Option Tmp)) (hm : P.follows .mixedOrders = true)
    (hB : (Region.backB .any ops && Region.sinkB .any ops n && Region.chainB .any ops n && decide (n < ops.size) && Region.seqB .any ops (ops.size - n) n (List.replicate n true ++ List.replicate (ops.size - n) false).toArray) = true)
    (hl : ops.toList.drop n = o1 :: o2 :: o3 :: o4 :: [])
    (h0 : I (fun _ => false) w.drew) (hI : ∀ k L u u', k < n → L k = false → I L u → R k u u' → I (fun j => if j = k then true else L j) u') (hF : ∀ i k v u u', i < n → k < n → i ≠ k → F i v u → R k u u' → F i v u')
    (hop : StepsS P .any ops Q n I R F (fun y => putsL ds 0 y a) 0) (hend : ∀ (y : Nat → Value) (w' : World) (L : Nat → Bool), (∀ j, j < n → L j = true) → I L w' → (∀ j, j < n → F j (y j) w') → wpList P ops Q [o1, o2, o3, o4] (putsL ds 0 y a) w') :
    (Code.region id ops true).wp P Q a w := by
  have h := wp_region_stable (id := id) n I R F (fun y => putsL ds 0 y a) (y0L ds a) _ hm hB hl h0 hI hF hop hend
  rwa [putsL_y0] at h
theorem wp_region_stableA5 {o1 o2 o3 o4 o5 : Oper} (n : Nat) (I : (Nat → Bool) → World → Prop) (R : Nat → World → World → Prop) (F : Nat → Value → World → Prop) (ds : List (Option Tmp)) (hm : P.follows .mixedOrders = true)
    (hB : (Region.backB .any ops && Region.sinkB .any ops n && Region.chainB .any ops n && decide (n < ops.size) && Region.seqB .any ops (ops.size - n) n (List.replicate n true ++ List.replicate (ops.size - n) false).toArray) = true)
    (hl : ops.toList.drop n = o1 :: o2 :: o3 :: o4 :: o5 :: [])
    (h0 : I (fun _ => false) w.drew) (hI : ∀ k L u u', k < n → L k = false → I L u → R k u u' → I (fun j => if j = k then true else L j) u') (hF : ∀ i k v u u', i < n → k < n → i ≠ k → F i v u → R k u u' → F i v u')
    (hop : StepsS P .any ops Q n I R F (fun y => putsL ds 0 y a) 0) (hend : ∀ (y : Nat → Value) (w' : World) (L : Nat → Bool), (∀ j, j < n → L j = true) → I L w' → (∀ j, j < n → F j (y j) w') → wpList P ops Q [o1, o2, o3, o4, o5] (putsL ds 0 y a) w') :
    (Code.region id ops true).wp P Q a w := by
  have h := wp_region_stable (id := id) n I R F (fun y => putsL ds 0 y a) (y0L ds a) _ hm hB hl h0 hI hF hop hend
  rwa [putsL_y0] at h
theorem wp_region_stableA0 (n : Nat) (I : (Nat → Bool) → World → Prop) (R : Nat → World → World → Prop) (F : Nat → Value → World → Prop) (ds : List (Option Tmp)) (hm : P.follows .mixedOrders = true)
    (hB : (Region.backB .any ops && decide (n = ops.size)) = true)
    (h0 : I (fun _ => false) w.drew) (hI : ∀ k L u u', k < n → L k = false → I L u → R k u u' → I (fun j => if j = k then true else L j) u') (hF : ∀ i k v u u', i < n → k < n → i ≠ k → F i v u → R k u u' → F i v u')
    (hop : StepsS P .any ops Q n I R F (fun y => putsL ds 0 y a) 0) (hend : ∀ (y : Nat → Value) (w' : World) (L : Nat → Bool), (∀ j, j < n → L j = true) → I L w' → (∀ j, j < n → F j (y j) w') → Q .normal (putsL ds 0 y a) w') :
    (Code.region id ops true).wp P Q a w := by
  have h := wp_region_stable0 (id := id) n I R F (fun y => putsL ds 0 y a) (y0L ds a) hm hB h0 hI hF hop hend
  rwa [putsL_y0] at h
end
end
theorem zero_ne_one_ : ((0 : Nat) = 1) = False := by simp
theorem one_ne_zero_ : ((1 : Nat) = 0) = False := by simp
theorem ite_fr {S : Nat → Prop} {k m : Nat} {u u' : World} (h : (if k = m then Fr S else Pu) u u') : Fr S u u' := by
  split at h
  · exact h
  · exact Pu.fr h
theorem ite_pu {S : Nat → Prop} {k m : Nat} {u u' : World} (h : (if k = m then Fr S else Pu) u u') (hne : m ≠ k) : Pu u u' := by
  rw [if_neg (Ne.symm hne)] at h
  exact h
theorem over_3 {W : World} {b : Nat} {t : TypeId} {x0 x1 x2 : Value} (k : Blk W b t #[x0, x1, x2]) (y0 y1 y2 : Value) :
    Blk (((W.setCell ⟨b, 0, none⟩ y0).setCell ⟨b, 1, none⟩ y1).setCell ⟨b, 2, none⟩ y2) b t #[y0, y1, y2] ∧ Fr (fun i => i = b) W (((W.setCell ⟨b, 0, none⟩ y0).setCell ⟨b, 1, none⟩ y1).setCell ⟨b, 2, none⟩ y2) :=
  ⟨((k.set_ 0 y0).set_ 1 y1).set_ 2 y2, ((Fr.one W _ 0 _).trans (Fr.one _ _ 1 _)).trans (Fr.one _ _ 2 _)⟩
theorem over_2 {W : World} {b : Nat} {t : TypeId} {x0 x1 : Value} (k : Blk W b t #[x0, x1]) (y0 y1 : Value) :
    Blk ((W.setCell ⟨b, 0, none⟩ y0).setCell ⟨b, 1, none⟩ y1) b t #[y0, y1] ∧ Fr (fun i => i = b) W ((W.setCell ⟨b, 0, none⟩ y0).setCell ⟨b, 1, none⟩ y1) :=
  ⟨(k.set_ 0 y0).set_ 1 y1, (Fr.one W _ 0 _).trans (Fr.one _ _ 1 _)⟩
theorem over_1 {W : World} {b : Nat} {t : TypeId} {x0 : Value} (k : Blk W b t #[x0]) (y0 : Value) :
    Blk (W.setCell ⟨b, 0, none⟩ y0) b t #[y0] ∧ Fr (fun i => i = b) W (W.setCell ⟨b, 0, none⟩ y0) :=
  ⟨k.set_ 0 y0, Fr.one W _ 0 _⟩
theorem typed_blk1 {w : World} {b : Nat} {e e' : TypeId} {cs : Array Value} (kb : Blk w b e cs) (hne : e ≠ e') : ∀ g, g = b → ∃ t cs fz, w.heap[g]? = some (.cells cs t fz) ∧ t ≠ e' := fun g hg => by
  subst hg
  exact ⟨_, _, _, kb, hne⟩
section
variable {P : Program} {w : World} {ops : Array Oper} {rest : List Oper} {o : Oper} {a : Act} {Q : Exit → Act → World → Prop}
theorem wpList_pushB {t e e' : TypeId} {z : Value} {size bytes : Nat} (E : ElemI P t e z size bytes) (hgd : o.guard = none) (s x : Operand)
    (ho : o.op = .call { callee := .builtin .append, args := #[s, x], argTypes := #[t, t] })
    {base n c q : Nat} {A : Option Addr} {xs : List Value} (us : Array Value) (hus : us.size = size) (h1 : ∀ u ∈ us.toList, u.oneCell' = true)
    (hs : a.eval s = .slice A n c) (hx : a.eval x = .slice (some ⟨q, 0, none⟩) 1 1) (hq : Blk w q e' us)
    (hown : w.ownsRow base e size (.slice A n c) n xs) (h63 : n + 1 ≤ maxLen) (hbytes : (n + 1) * bytes ≤ 140737488355328) (hbase : base ≤ w.heap.size)
    (h : ∀ g c' w', w'.ownsRow base e size (.slice (some ⟨g, 0, none⟩) (n + 1) c') (n + 1) (xs ++ us.toList) → w.grownBy w' (Value.slice A n c).ownBlock → ((Value.slice A n c).ownBlock = some g ∨ g = w.heap.size) → wpList P ops Q rest (a.put o.dst (.slice (some ⟨g, 0, none⟩) (n + 1) c')) w') :
    wpList P ops Q (o :: rest) a w := by
  obtain ⟨i, hi, hz, hsz, hby⟩ := info_parts E.info
  refine wpList_append_lies _ hgd s x t ho base e i z size bytes E.under hi hz hsz hby E.zs E.pos _ _ _ hs hown ⟨q, 0, none⟩ 1 1 us.toList hx (by simp [hus]) (fun j u hu => ?_) h1 (by omega) h63 hbytes hbase w.heap.size rfl ?_
  · rw [add_zero_, hq.cell]
    simpa using hu
  · intro g cap w' ho' hg hw _
    exact h g cap w' ho' hg hw
theorem step_pushB {t e e' : TypeId} {z : Value} {size bytes : Nat} (E : ElemI P t e z size bytes) {K : Act → World → Prop} {EE : Prop} (hgd : o.guard = none) (s x : Operand)
    (ho : o.op = .call { callee := .builtin .append, args := #[s, x], argTypes := #[t, t] })
    {base n c q : Nat} {A : Option Addr} {xs : List Value} (us : Array Value) (hus : us.size = size) (h1 : ∀ u ∈ us.toList, u.oneCell' = true)
    (hs : a.eval s = .slice A n c) (hx : a.eval x = .slice (some ⟨q, 0, none⟩) 1 1) (hq : Blk w q e' us)
    (hown : w.ownsRow base e size (.slice A n c) n xs) (h63 : n + 1 ≤ maxLen) (hbytes : (n + 1) * bytes ≤ 140737488355328) (hbase : base ≤ w.heap.size)
    (h : ∀ g c' w', w'.ownsRow base e size (.slice (some ⟨g, 0, none⟩) (n + 1) c') (n + 1) (xs ++ us.toList) → w.grownBy w' (Value.slice A n c).ownBlock → ((Value.slice A n c).ownBlock = some g ∨ g = w.heap.size) → K (a.put o.dst (.slice (some ⟨g, 0, none⟩) (n + 1) c')) w') :
    if Region.wanted o (yielded ops a.tmps) = true then Oper.wp P o a w K Q else EE := by
  obtain ⟨i, hi, hz, hsz, hby⟩ := info_parts E.info
  refine step_append_lies _ hgd s x t ho base e i z size bytes E.under hi hz hsz hby E.zs E.pos _ _ _ hs hown ⟨q, 0, none⟩ 1 1 us.toList hx (by simp [hus]) (fun j u hu => ?_) h1 (by omega) h63 hbytes hbase w.heap.size rfl ?_
  · rw [add_zero_, hq.cell]
    simpa using hu
  · intro g cap w' ho' hg hw _
    exact h g cap w' ho' hg hw
end
end
section
set_option linter.unusedVariables false
set_option linter.unusedSimpArgs false
open Go.RowKit
theorem wpX_tail1 {P : Program} {ops : Array Oper} {Q : Exit → Act → World → Prop} {md : Region.Mode} {S : World → Prop} {n : Nat} {o1 : Oper} {listed : Array Bool} {a : Act} {w : World} (hl : (ops.toList.drop n) = o1 :: []) (hB : Region.seqB md ops 1 n listed = true)
    (h : wpList P ops Q [o1] a w) : wpX P md ops Q S n 1 listed a w := wpX_tail hl rfl hB h
theorem tnum_none (v : Value) (z : Int) (w : World) (h : ZR w v z) :
    Calls Tryz.prog 32 #[v] w fun e w' => ∃ g A n c, e = .returned (.agg #[.bool g, .slice A n c, .pointer none]) ∧ ZR w' (.agg #[.bool g, .slice A n c]) z ∧ Pu w w' := by
  obtain ⟨g, A, n, c, rfl⟩ := h.shape2
  have H := Lib.hid h
  clear h
  go_enter Tryz.func32, Tryz.ntmps32
  go_wp2
  have k : Blk ((w.alloc (.cells #[.bool g, .slice A n c] 30)).alloc (.cells #[.bool g, .slice A n c, .pointer none] 33)) (w.heap.size + 1) 33 #[.bool g, .slice A n c, .pointer none] := Blk.at_new _ _ _ (by simp)
  have pA : Pu w ((w.alloc (.cells #[.bool g, .slice A n c] 30)).alloc (.cells #[.bool g, .slice A n c, .pointer none] 33)) := ((Pu.refl w).alloc _).alloc _
  have r0 := k.cell 0
  have r1 := k.cell 1
  have r2 := k.cell 2
  exact bodyPost_ret (v := .agg #[.bool g, .slice A n c, .pointer none]) (by simp [results, Tryz.results32, go_sem, r0, r1, r2]) rfl ⟨g, A, n, c, rfl, H.out.pu pA, pA⟩
def TMX (w : World) (lo : Nat) (v : Value) (rest : Int) (fs : List (Key × Int)) : Prop :=
  (∃ g A n c, v = .agg #[.bool g, .slice A n c, .pointer none] ∧ ZR w (.agg #[.bool g, .slice A n c]) rest ∧ fs = []) ∨ ∃ base, lo ≤ base ∧ TMO w base v rest fs
theorem TMX.tm {w : World} {lo : Nat} {v : Value} {rest : Int} {fs : List (Key × Int)} (h : TMX w lo v rest fs) : TM w v rest fs := by
  rcases h with ⟨g, A, n, c, rfl, h, rfl⟩ | ⟨base, -, h⟩
  · exact ⟨g, A, n, c, none, rfl, h, .inl ⟨rfl, rfl⟩⟩
  · exact h.tm
theorem TMX.frT {S : Nat → Prop} {w w' : World} {lo : Nat} {v : Value} {rest : Int} {fs : List (Key × Int)} (h : TMX w lo v rest fs) (hf : Fr S w w') (h1 : ∀ g, S g → g < lo) (h2 : ∀ g, S g → ∃ t cs fz, w.heap[g]? = some (.cells cs t fz) ∧ t ≠ 169) : TMX w' lo v rest fs := by
  rcases h with ⟨g, A, n, c, rfl, h, rfl⟩ | ⟨base, hb, h⟩
  · exact .inl ⟨g, A, n, c, rfl, h.frT hf h2, rfl⟩
  · exact .inr ⟨base, hb, h.frT hf (fun g hg => Nat.lt_of_lt_of_le (h1 g hg) hb) h2⟩
theorem typed3_blk {w : World} {b : Nat} {e e1 e2 e3 : TypeId} {cs : Array Value} (kb : Blk w b e cs) (h1 : e ≠ e1) (h2 : e ≠ e2) (h3 : e ≠ e3) : ∀ g, g = b → ∃ t cs fz, w.heap[g]? = some (.cells cs t fz) ∧ t ≠ e1 ∧ t ≠ e2 ∧ t ≠ e3 := fun g hg => by
  subst hg
  exact ⟨_, _, _, kb, h1, h2, h3⟩
theorem TMX.pu {w w' : World} {lo : Nat} {v : Value} {rest : Int} {fs : List (Key × Int)} (h : TMX w lo v rest fs) (p : Pu w w') : TMX w' lo v rest fs := h.frT p (fun g hg => hg.elim) (fun g hg => hg.elim)
theorem TMX.lo_ {w : World} {lo lo' : Nat} {v : Value} {rest : Int} {fs : List (Key × Int)} (h : TMX w lo v rest fs) (hl : lo' ≤ lo) : TMX w lo' v rest fs := by
  rcases h with h | ⟨base, hb, h⟩
  · exact .inl h
  · exact .inr ⟨base, Nat.le_trans hl hb, h⟩
structure BothAt (W Z wr : World) (b5 b6 : Nat) (ps : List (Key × Int)) (rest : Int) (i : Nat) : Prop where
  pu : Pu W wr
  vars : ∃ g A n c m An nx cn Af cf s A2 n2 c2, Blk wr b5 33 #[.bool g, .slice A n c, .pointer m] ∧ Blk wr b6 56 #[.slice An nx cn, .slice Af nx cf, .int .i64 s, .slice A2 n2 c2] ∧
    TMX wr Z.heap.size (.agg #[.bool g, .slice A n c, .pointer m]) rest (sumM (ps.take i)) ∧ TR wr An nx cn Af cf ⟨s, A2, n2, c2⟩ (9223372036854775808 + i * 1099511627776) ∧ nx ≤ i
  size : Z.heap.size ≤ wr.heap.size
  all : ∀ p ∈ ps.take i, okPart p = true
theorem TR.le {w : World} {An : Option Addr} {n cn : Nat} {Af : Option Addr} {cf : Nat} {r : RawZ} {B B' : Nat} (h : TR w An n cn Af cf r B) (hb : B ≤ B') : TR w An n cn Af cf r B' := by
  obtain ⟨h1, ⟨L, h2, h3⟩, h4, h5, h6⟩ := h
  exact ⟨h1, ⟨L, h2, fun q hq => (h3 q hq).le hb⟩, h4.le hb, h5, h6⟩
set_option maxHeartbeats 4000000 in
set_option maxRecDepth 100000 in
theorem both_any (ps : List (Key × Int)) (rest : Int) (Ap : Option Addr) (cp : Nat) (w : World) (hs : Sl w 2 Ap ps.length cp (cat partCells ps))
    (hr1 : -9223372036854775808 ≤ rest) (hr2 : rest ≤ 9223372036854775807) (hi : ∀ p ∈ ps, (-9223372036854775808 ≤ p.2 ∧ p.2 ≤ 9223372036854775807) ∧ p.1.length ≤ 9223372036854775807) (hl : ps.length ≤ 9223372036854775807) :
    Calls Tryz.prog 16 #[.agg #[.slice Ap ps.length cp, .int .i64 rest]] w fun e w' => ∃ v ok An n cn Af cf r fs, e = .returned (.tuple #[v, tval An n cn Af n cf r, .bool ok]) ∧ ok = okM ps rest ∧ TMX w' w.heap.size v rest fs ∧ (ok = true → fs = sumM ps) ∧ n ≤ 12 ∧ TR w' An n cn Af cf r 9300000000000000000 ∧ Pu w w' := by
  obtain ⟨W, hWe⟩ : ∃ W, W = ((w.alloc (.cells #[.slice Ap ps.length cp, .int .i64 rest] 49)).alloc (.cells #[.bool false, .slice none 0 0, .pointer none] 33)).alloc (.cells #[.slice none 0 0, .slice none 0 0, .int .i64 0, .slice none 0 0] 56) := ⟨_, rfl⟩
  have pW : Pu w W := by rw [hWe]; exact (((Pu.refl w).alloc _).alloc _).alloc _
  have k1 : Blk W w.heap.size 49 #[.slice Ap ps.length cp, .int .i64 rest] := by rw [hWe]; exact ((Blk.new w _ _).alloc _).alloc _
  have k2 : Blk W (w.heap.size + 1) 33 #[.bool false, .slice none 0 0, .pointer none] := by rw [hWe]; exact (Blk.at_new _ _ _ (by simp)).alloc _
  have k3 : Blk W (w.heap.size + 1 + 1) 56 #[.slice none 0 0, .slice none 0 0, .int .i64 0, .slice none 0 0] := by rw [hWe]; exact Blk.at_new _ _ _ (by simp)
  have Hsz := Lib.hid (show W.heap.size = w.heap.size + 3 by rw [hWe]; simp)
  have HWe := Lib.hid hWe
  have Hs := Lib.hid hs
  have Hi := Lib.hid hi
  clear hWe hs hi
  go_enter Tryz.func16, Tryz.ntmps16
  go_wp2_with fail
  rw [← HWe.out]
  rename_i K1 hK1
  have HK1 := Lib.hid hK1
  clear hK1
  have d0 : W.cell? ⟨w.heap.size, 0, none⟩ = some (.slice Ap ps.length cp) := k1.cell 0
  have d1 : W.cell? ⟨w.heap.size, 1, none⟩ = some (.int .i64 rest) := k1.cell 1
  have key : ∀ (x0 x7 x8 x11 x15 x17 x18 x19 x20 x21 x22 x23 x24 x25 x26 x27 x28 x29 x30 x31 x32 x33 x34 x35 x36 x37 x38 x39 x40 x41 x42 x43 x44 x45 x46 x47 x48 x49 x50 x51 x52 x53 x54 x55 x56 x57 x58 x59 x60 x61 x62 x63 x64 x65 x66 x67 x68 x69 x70 x71 x72 x73 x74 x75 x76 x77 x78 x79 x80 x81 x82 : Value) (b5 b6 : Nat) (g : Bool) (A : Option Addr) (n c : Nat) (s : Int) (A2 : Option Addr) (n2 c2 : Nat) (Z : World), W.heap.size ≤ b5 → W.heap.size ≤ b6 → b5 ≠ b6 → Pu W Z → Blk Z b5 33 #[.bool g, .slice A n c, .pointer none] → Blk Z b6 56 #[.slice none 0 0, .slice none 0 0, .int .i64 s, .slice A2 n2 c2] → ZR Z (.agg #[.bool g, .slice A n c]) rest → NZ_ Z 9223372036854775808 (.agg #[.int .i64 s, .slice A2 n2 c2]) → K1 { tmps := #[x0, ptr w.heap.size, ptr (w.heap.size + 1), ptr (w.heap.size + 1 + 1), .bool false, ptr b5, ptr b6, x7, x8, .pointer (some ⟨w.heap.size, 1, none⟩), .int .i64 rest, x11, .agg #[.bool g, .slice A n c, .pointer none], .pointer (some ⟨w.heap.size, 1, none⟩), .int .i64 rest, x15, .agg #[.slice none 0 0, .slice none 0 0, .int .i64 s, .slice A2 n2 c2], x17, x18, x19, x20, x21, x22, x23, x24, x25, x26, x27, x28, x29, x30, x31, x32, x33, x34, x35, x36, x37, x38, x39, x40, x41, x42, x43, x44, x45, x46, x47, x48, x49, x50, x51, x52, x53, x54, x55, x56, x57, x58, x59, x60, x61, x62, x63, x64, x65, x66, x67, x68, x69, x70, x71, x72, x73, x74, x75, x76, x77, x78, x79, x80, x81, x82], defers := [] } Z := by
    intro x0 x7 x8 x11 x15 x17 x18 x19 x20 x21 x22 x23 x24 x25 x26 x27 x28 x29 x30 x31 x32 x33 x34 x35 x36 x37 x38 x39 x40 x41 x42 x43 x44 x45 x46 x47 x48 x49 x50 x51 x52 x53 x54 x55 x56 x57 x58 x59 x60 x61 x62 x63 x64 x65 x66 x67 x68 x69 x70 x71 x72 x73 x74 x75 x76 x77 x78 x79 x80 x81 x82 b5 b6 g A n c s A2 n2 c2 Z hb5 hb6 hab pZ kA kB hz hx
    refine HK1.out _ _ ?_
    clear HK1
    have pZ0 := pZ
    have hlo0 : w.heap.size ≤ Z.heap.size := (pW.trans pZ).size
    have hb5Z := kA.lt
    have hb6Z := kB.lt
    have hz0 : TMX Z Z.heap.size (.agg #[.bool g, .slice A n c, .pointer none]) rest [] := .inl ⟨g, A, n, c, rfl, hz, rfl⟩
    have hx0 : TR Z none 0 0 none 0 ⟨s, A2, n2, c2⟩ 9223372036854775808 := (TO.nil (base := 0) hx).tr
    clear hz hx
    have cc0 : Z.cell? ⟨w.heap.size, 0, none⟩ = some (.slice Ap ps.length cp) := pZ.cellv d0
    have cc1 : Z.cell? ⟨w.heap.size, 1, none⟩ = some (.int .i64 rest) := pZ.cellv d1
    by_cases hg12 : 12 < ps.length
    · have hg1 : decide ((12 : Int) < (ps.length : Int)) = true := by simp; omega
      have hno := Lib.hid (show okM ps rest = false by
          unfold okM
          have h12 : decide (ps.length ≤ 12) = false := decide_eq_false (by omega)
          simp [h12])
      go_wp2_with fail
      have pd : Pu Z Z.drew := (Pu.refl Z).drew
      refine wp_region_X 3 (fun t => t.cell? ⟨b5, 0, none⟩ = some (.bool g) ∧ t.cell? ⟨b5, 1, none⟩ = some (.slice A n c) ∧ t.cell? ⟨b5, 2, none⟩ = some (.pointer none) ∧ t.cell? ⟨b6, 0, none⟩ = some (.slice none 0 0) ∧ t.cell? ⟨b6, 1, none⟩ = some (.slice none 0 0) ∧ t.cell? ⟨b6, 2, none⟩ = some (.int .i64 s) ∧ t.cell? ⟨b6, 3, none⟩ = some (.slice A2 n2 c2)) (by kernel_rfl) ⟨(kA.pu pd).cell 0, (kA.pu pd).cell 1, (kA.pu pd).cell 2, (kB.pu pd).cell 0, (kB.pu pd).cell 1, (kB.pu pd).cell 2, (kB.pu pd).cell 3⟩ ?_
      generalize Z.drew = V at pd ⊢
      refine wpX_take 0 (v := ?_) (by kernel_rfl) rfl (by kernel_rfl) (fun _ _ _ h => h) (Or.inl ⟨by rfl, ?_⟩) ?_
      rotate_left
      · (intro t hSw; (try dsimp only at hSw); go_simp; try with_reducible rfl)
      simp only [Act.put, List.setIfInBounds_toArray, List.set_cons_zero, List.set_cons_succ]
      refine wpX_take 1 (v := ?_) (by kernel_rfl) rfl (by kernel_rfl) (fun _ _ _ h => h) (Or.inl ⟨by rfl, ?_⟩) ?_
      rotate_left
      · (intro t hSw; (try dsimp only at hSw); go_simp; try with_reducible rfl)
      simp only [Act.put, List.setIfInBounds_toArray, List.set_cons_zero, List.set_cons_succ]
      have k2V := k2.pu (pZ.trans pd)
      have k3V := k3.pu (pZ.trans pd)
      have u0 := k2V.cell 0
      have u1 := k2V.cell 1
      have u2 := k2V.cell 2
      have fu0 := k2V.frozen 0
      have fu1 := k2V.frozen 1
      have fu2 := k2V.frozen 2
      have hs3 := Hsz.out
      obtain ⟨k2a, e2⟩ := over_3 k2V (.bool g) (.slice A n c) (.pointer none)
      have kA1 := (kA.pu pd).fr e2 (by omega)
      have kB1 := (kB.pu pd).fr e2 (by omega)
      have k3a := k3V.fr e2 (by omega)
      have hlo1 : ∀ j, j = w.heap.size + 1 → j < Z.heap.size := fun j hj => by have := pZ0.size; omega
      have hlo2 : ∀ j, j = w.heap.size + 1 + 1 → j < Z.heap.size := fun j hj => by have := pZ0.size; omega
      clear hs3
      have HF := Lib.hid (And.intro k2a (And.intro e2 (And.intro kA1 (And.intro kB1 k3a))))
      clear k2a e2 kA1 kB1
      refine wpX_one 2 (by kernel_rfl) rfl (by decide) (fun K hK => ?_)
      go_simp
      refine hK.out _ _ ⟨HF.out.2.2.1.cell 0, HF.out.2.2.1.cell 1, HF.out.2.2.1.cell 2, HF.out.2.2.2.1.cell 0, HF.out.2.2.2.1.cell 1, HF.out.2.2.2.1.cell 2, HF.out.2.2.2.1.cell 3⟩ ?_
      clear hK K
      try simp only [Act.put, List.setIfInBounds_toArray, List.set_cons_zero, List.set_cons_succ]
      have t0 := k3a.cell 0
      have t1 := k3a.cell 1
      have t2 := k3a.cell 2
      have t3 := k3a.cell 3
      have ft0 := k3a.frozen 0
      have ft1 := k3a.frozen 1
      have ft2 := k3a.frozen 2
      have ft3 := k3a.frozen 3
      have hb23 : ¬ (w.heap.size + 1 = w.heap.size + 1 + 1) := by omega
      obtain ⟨k3b, e3⟩ := over_T k3a (.slice none 0 0) (.slice none 0 0) (.int .i64 s) (.slice A2 n2 c2)
      have k2b := HF.out.1.fr e3 hb23
      have hzV := ((hz0.pu pd).frT HF.out.2.1 (fun g hg => hlo1 g hg) (typed_blk1 k2V (by decide))).frT e3 (fun g hg => hlo2 g hg) (typed_blk1 k3a (by decide))
      have hxV := ((hx0.pu pd).frT HF.out.2.1 (typed3_blk k2V (by decide) (by decide) (by decide))).frT e3 (typed3_blk k3a (by decide) (by decide) (by decide))
      have pwV := ((pW.trans (pZ.trans pd)).step HF.out.2.1 (fun j hj => by
          have e' : j = w.heap.size + 1 := hj
          omega)).step e3 (fun j hj => by
          have e' : j = w.heap.size + 1 + 1 := hj
          omega)
      have r0 := k2b.cell 0
      have r1 := k2b.cell 1
      have r2 := k2b.cell 2
      have q0 := k3b.cell 0
      have q1 := k3b.cell 1
      have q2 := k3b.cell 2
      have q3 := k3b.cell 3
      have HG := Lib.hid (And.intro hzV (And.intro hxV pwV))
      clear k3a k3b e3 k2b hzV hxV pwV hb23 hlo1 hlo2
      refine wpX_tail2 rfl (by kernel_rfl) ?_
      go_wp2_with fail
      exact bodyPost_ret (v := .tuple #[.agg #[.bool g, .slice A n c, .pointer none], .agg #[.slice none 0 0, .slice none 0 0, .int .i64 s, .slice A2 n2 c2], .bool false]) (by simp [results, Tryz.results16, go_sem, r0, r1, r2, q0, q1, q2, q3]) rfl ⟨_, false, none, 0, 0, none, 0, ⟨s, A2, n2, c2⟩, [], rfl, hno.out.symm, HG.out.1.lo_ hlo0, (fun h => by cases h), Nat.zero_le _, HG.out.2.1.le (by omega), HG.out.2.2⟩
    have hg1 : decide ((12 : Int) < (ps.length : Int)) = false := by simp; omega
    by_cases hlow : rest < -1099511627776
    · have hg2 : decide (rest < -1099511627776) = true := decide_eq_true hlow
      have hno := Lib.hid (show okM ps rest = false by
          unfold okM inR
          have h12 : decide (-1099511627776 ≤ rest) = false := decide_eq_false (by omega)
          simp [h12])
      go_wp2_with fail
      have pd : Pu Z Z.drew := (Pu.refl Z).drew
      refine wp_region_X 3 (fun t => t.cell? ⟨b5, 0, none⟩ = some (.bool g) ∧ t.cell? ⟨b5, 1, none⟩ = some (.slice A n c) ∧ t.cell? ⟨b5, 2, none⟩ = some (.pointer none) ∧ t.cell? ⟨b6, 0, none⟩ = some (.slice none 0 0) ∧ t.cell? ⟨b6, 1, none⟩ = some (.slice none 0 0) ∧ t.cell? ⟨b6, 2, none⟩ = some (.int .i64 s) ∧ t.cell? ⟨b6, 3, none⟩ = some (.slice A2 n2 c2)) (by kernel_rfl) ⟨(kA.pu pd).cell 0, (kA.pu pd).cell 1, (kA.pu pd).cell 2, (kB.pu pd).cell 0, (kB.pu pd).cell 1, (kB.pu pd).cell 2, (kB.pu pd).cell 3⟩ ?_
      generalize Z.drew = V at pd ⊢
      refine wpX_take 0 (v := ?_) (by kernel_rfl) rfl (by kernel_rfl) (fun _ _ _ h => h) (Or.inl ⟨by rfl, ?_⟩) ?_
      rotate_left
      · (intro t hSw; (try dsimp only at hSw); go_simp; try with_reducible rfl)
      simp only [Act.put, List.setIfInBounds_toArray, List.set_cons_zero, List.set_cons_succ]
      refine wpX_take 1 (v := ?_) (by kernel_rfl) rfl (by kernel_rfl) (fun _ _ _ h => h) (Or.inl ⟨by rfl, ?_⟩) ?_
      rotate_left
      · (intro t hSw; (try dsimp only at hSw); go_simp; try with_reducible rfl)
      simp only [Act.put, List.setIfInBounds_toArray, List.set_cons_zero, List.set_cons_succ]
      have k2V := k2.pu (pZ.trans pd)
      have k3V := k3.pu (pZ.trans pd)
      have u0 := k2V.cell 0
      have u1 := k2V.cell 1
      have u2 := k2V.cell 2
      have fu0 := k2V.frozen 0
      have fu1 := k2V.frozen 1
      have fu2 := k2V.frozen 2
      have hs3 := Hsz.out
      obtain ⟨k2a, e2⟩ := over_3 k2V (.bool g) (.slice A n c) (.pointer none)
      have kA1 := (kA.pu pd).fr e2 (by omega)
      have kB1 := (kB.pu pd).fr e2 (by omega)
      have k3a := k3V.fr e2 (by omega)
      have hlo1 : ∀ j, j = w.heap.size + 1 → j < Z.heap.size := fun j hj => by have := pZ0.size; omega
      have hlo2 : ∀ j, j = w.heap.size + 1 + 1 → j < Z.heap.size := fun j hj => by have := pZ0.size; omega
      clear hs3
      have HF := Lib.hid (And.intro k2a (And.intro e2 (And.intro kA1 (And.intro kB1 k3a))))
      clear k2a e2 kA1 kB1
      refine wpX_one 2 (by kernel_rfl) rfl (by decide) (fun K hK => ?_)
      go_simp
      refine hK.out _ _ ⟨HF.out.2.2.1.cell 0, HF.out.2.2.1.cell 1, HF.out.2.2.1.cell 2, HF.out.2.2.2.1.cell 0, HF.out.2.2.2.1.cell 1, HF.out.2.2.2.1.cell 2, HF.out.2.2.2.1.cell 3⟩ ?_
      clear hK K
      try simp only [Act.put, List.setIfInBounds_toArray, List.set_cons_zero, List.set_cons_succ]
      have t0 := k3a.cell 0
      have t1 := k3a.cell 1
      have t2 := k3a.cell 2
      have t3 := k3a.cell 3
      have ft0 := k3a.frozen 0
      have ft1 := k3a.frozen 1
      have ft2 := k3a.frozen 2
      have ft3 := k3a.frozen 3
      have hb23 : ¬ (w.heap.size + 1 = w.heap.size + 1 + 1) := by omega
      obtain ⟨k3b, e3⟩ := over_T k3a (.slice none 0 0) (.slice none 0 0) (.int .i64 s) (.slice A2 n2 c2)
      have k2b := HF.out.1.fr e3 hb23
      have hzV := ((hz0.pu pd).frT HF.out.2.1 (fun g hg => hlo1 g hg) (typed_blk1 k2V (by decide))).frT e3 (fun g hg => hlo2 g hg) (typed_blk1 k3a (by decide))
      have hxV := ((hx0.pu pd).frT HF.out.2.1 (typed3_blk k2V (by decide) (by decide) (by decide))).frT e3 (typed3_blk k3a (by decide) (by decide) (by decide))
      have pwV := ((pW.trans (pZ.trans pd)).step HF.out.2.1 (fun j hj => by
          have e' : j = w.heap.size + 1 := hj
          omega)).step e3 (fun j hj => by
          have e' : j = w.heap.size + 1 + 1 := hj
          omega)
      have r0 := k2b.cell 0
      have r1 := k2b.cell 1
      have r2 := k2b.cell 2
      have q0 := k3b.cell 0
      have q1 := k3b.cell 1
      have q2 := k3b.cell 2
      have q3 := k3b.cell 3
      have HG := Lib.hid (And.intro hzV (And.intro hxV pwV))
      clear k3a k3b e3 k2b hzV hxV pwV hb23 hlo1 hlo2
      refine wpX_tail2 rfl (by kernel_rfl) ?_
      go_wp2_with fail
      exact bodyPost_ret (v := .tuple #[.agg #[.bool g, .slice A n c, .pointer none], .agg #[.slice none 0 0, .slice none 0 0, .int .i64 s, .slice A2 n2 c2], .bool false]) (by simp [results, Tryz.results16, go_sem, r0, r1, r2, q0, q1, q2, q3]) rfl ⟨_, false, none, 0, 0, none, 0, ⟨s, A2, n2, c2⟩, [], rfl, hno.out.symm, HG.out.1.lo_ hlo0, (fun h => by cases h), Nat.zero_le _, HG.out.2.1.le (by omega), HG.out.2.2⟩
    have hg2 : decide (rest < -1099511627776) = false := decide_eq_false hlow
    by_cases hup : 1099511627776 < rest
    · have hg3 : decide (1099511627776 < rest) = true := decide_eq_true hup
      have hno := Lib.hid (show okM ps rest = false by
          unfold okM inR
          have h12 : decide (rest ≤ 1099511627776) = false := decide_eq_false (by omega)
          simp [h12])
      go_wp2_with fail
      have pd : Pu Z Z.drew := (Pu.refl Z).drew
      refine wp_region_X 3 (fun t => t.cell? ⟨b5, 0, none⟩ = some (.bool g) ∧ t.cell? ⟨b5, 1, none⟩ = some (.slice A n c) ∧ t.cell? ⟨b5, 2, none⟩ = some (.pointer none) ∧ t.cell? ⟨b6, 0, none⟩ = some (.slice none 0 0) ∧ t.cell? ⟨b6, 1, none⟩ = some (.slice none 0 0) ∧ t.cell? ⟨b6, 2, none⟩ = some (.int .i64 s) ∧ t.cell? ⟨b6, 3, none⟩ = some (.slice A2 n2 c2)) (by kernel_rfl) ⟨(kA.pu pd).cell 0, (kA.pu pd).cell 1, (kA.pu pd).cell 2, (kB.pu pd).cell 0, (kB.pu pd).cell 1, (kB.pu pd).cell 2, (kB.pu pd).cell 3⟩ ?_
      generalize Z.drew = V at pd ⊢
      refine wpX_take 0 (v := ?_) (by kernel_rfl) rfl (by kernel_rfl) (fun _ _ _ h => h) (Or.inl ⟨by rfl, ?_⟩) ?_
      rotate_left
      · (intro t hSw; (try dsimp only at hSw); go_simp; try with_reducible rfl)
      simp only [Act.put, List.setIfInBounds_toArray, List.set_cons_zero, List.set_cons_succ]
      refine wpX_take 1 (v := ?_) (by kernel_rfl) rfl (by kernel_rfl) (fun _ _ _ h => h) (Or.inl ⟨by rfl, ?_⟩) ?_
      rotate_left
      · (intro t hSw; (try dsimp only at hSw); go_simp; try with_reducible rfl)
      simp only [Act.put, List.setIfInBounds_toArray, List.set_cons_zero, List.set_cons_succ]
      have k2V := k2.pu (pZ.trans pd)
      have k3V := k3.pu (pZ.trans pd)
      have u0 := k2V.cell 0
      have u1 := k2V.cell 1
      have u2 := k2V.cell 2
      have fu0 := k2V.frozen 0
      have fu1 := k2V.frozen 1
      have fu2 := k2V.frozen 2
      have hs3 := Hsz.out
      obtain ⟨k2a, e2⟩ := over_3 k2V (.bool g) (.slice A n c) (.pointer none)
      have kA1 := (kA.pu pd).fr e2 (by omega)
      have kB1 := (kB.pu pd).fr e2 (by omega)
      have k3a := k3V.fr e2 (by omega)
      have hlo1 : ∀ j, j = w.heap.size + 1 → j < Z.heap.size := fun j hj => by have := pZ0.size; omega
      have hlo2 : ∀ j, j = w.heap.size + 1 + 1 → j < Z.heap.size := fun j hj => by have := pZ0.size; omega
      clear hs3
      have HF := Lib.hid (And.intro k2a (And.intro e2 (And.intro kA1 (And.intro kB1 k3a))))
      clear k2a e2 kA1 kB1
      refine wpX_one 2 (by kernel_rfl) rfl (by decide) (fun K hK => ?_)
      go_simp
      refine hK.out _ _ ⟨HF.out.2.2.1.cell 0, HF.out.2.2.1.cell 1, HF.out.2.2.1.cell 2, HF.out.2.2.2.1.cell 0, HF.out.2.2.2.1.cell 1, HF.out.2.2.2.1.cell 2, HF.out.2.2.2.1.cell 3⟩ ?_
      clear hK K
      try simp only [Act.put, List.setIfInBounds_toArray, List.set_cons_zero, List.set_cons_succ]
      have t0 := k3a.cell 0
      have t1 := k3a.cell 1
      have t2 := k3a.cell 2
      have t3 := k3a.cell 3
      have ft0 := k3a.frozen 0
      have ft1 := k3a.frozen 1
      have ft2 := k3a.frozen 2
      have ft3 := k3a.frozen 3
      have hb23 : ¬ (w.heap.size + 1 = w.heap.size + 1 + 1) := by omega
      obtain ⟨k3b, e3⟩ := over_T k3a (.slice none 0 0) (.slice none 0 0) (.int .i64 s) (.slice A2 n2 c2)
      have k2b := HF.out.1.fr e3 hb23
      have hzV := ((hz0.pu pd).frT HF.out.2.1 (fun g hg => hlo1 g hg) (typed_blk1 k2V (by decide))).frT e3 (fun g hg => hlo2 g hg) (typed_blk1 k3a (by decide))
      have hxV := ((hx0.pu pd).frT HF.out.2.1 (typed3_blk k2V (by decide) (by decide) (by decide))).frT e3 (typed3_blk k3a (by decide) (by decide) (by decide))
      have pwV := ((pW.trans (pZ.trans pd)).step HF.out.2.1 (fun j hj => by
          have e' : j = w.heap.size + 1 := hj
          omega)).step e3 (fun j hj => by
          have e' : j = w.heap.size + 1 + 1 := hj
          omega)
      have r0 := k2b.cell 0
      have r1 := k2b.cell 1
      have r2 := k2b.cell 2
      have q0 := k3b.cell 0
      have q1 := k3b.cell 1
      have q2 := k3b.cell 2
      have q3 := k3b.cell 3
      have HG := Lib.hid (And.intro hzV (And.intro hxV pwV))
      clear k3a k3b e3 k2b hzV hxV pwV hb23 hlo1 hlo2
      refine wpX_tail2 rfl (by kernel_rfl) ?_
      go_wp2_with fail
      exact bodyPost_ret (v := .tuple #[.agg #[.bool g, .slice A n c, .pointer none], .agg #[.slice none 0 0, .slice none 0 0, .int .i64 s, .slice A2 n2 c2], .bool false]) (by simp [results, Tryz.results16, go_sem, r0, r1, r2, q0, q1, q2, q3]) rfl ⟨_, false, none, 0, 0, none, 0, ⟨s, A2, n2, c2⟩, [], rfl, hno.out.symm, HG.out.1.lo_ hlo0, (fun h => by cases h), Nat.zero_le _, HG.out.2.1.le (by omega), HG.out.2.2⟩
    have hg3 : decide (1099511627776 < rest) = false := decide_eq_false hup
    go_wp2_with fail
    clear hg1 hg2 hg3
    go_loopw [36] (fun iv wr => ∃ i : Nat, i ≤ ps.length ∧ iv = .int .i64 (i : Int) ∧ BothAt W Z wr b5 b6 ps rest i) (fun iv _ => ps.length - (intOf iv).toNat)
    case atStart => exact ⟨0, Nat.zero_le _, rfl, ⟨pZ, ⟨g, A, n, c, none, none, 0, 0, none, 0, s, A2, n2, c2, kA, kB, by simpa [sumM] using hz0, by simpa using hx0, Nat.le_refl _⟩, Nat.le_refl _, fun p hp => by simp at hp⟩⟩
    case round =>
      obtain ⟨i, hi, rfl, hB⟩ := hrel
      obtain ⟨pZ1, ⟨g1, A1, n1, c1, m1, An, nx, cn, Af, cf, s1, A3, n3, c3, kA, kB, hz1, hx1, hnx⟩, hsz1, hall⟩ := hB
      clear hz0 hx0 cc0 cc1
      have cc0 : wr.cell? ⟨w.heap.size, 0, none⟩ = some (.slice Ap ps.length cp) := pZ1.cellv d0
      by_cases hlt : i < ps.length
      · obtain ⟨p, hp⟩ : ∃ p, ps[i]? = some p := ⟨_, List.getElem?_eq_getElem hlt⟩
        have hsl := Hs.out.pu (pW.trans pZ1)
        obtain ⟨bp, op, rfl, hbl, hcl⟩ := cat_at partCells_len (by decide) hsl hp
        have x0 : wr.cell? ⟨bp, op + i * 2, none⟩ = some (.string ⟨p.1.toArray⟩) := hcl 0 _ rfl
        have x1 : wr.cell? ⟨bp, op + i * 2 + 1, none⟩ = some (.int .i64 p.2) := hcl 1 _ rfl
        obtain ⟨pk, pz⟩ := p
        dsimp only at x0 x1
        obtain ⟨⟨hz1a, hz1b⟩, hkl⟩ := Hi.out _ (List.mem_of_getElem? hp)
        dsimp only at hz1a hz1b hkl
        have Hp := Lib.hid hp
        obtain ⟨X, hXe⟩ : ∃ X, X = wr.alloc (.cells #[.string ⟨pk.toArray⟩, .int .i64 pz] 113) := ⟨_, rfl⟩
        have pX : Pu wr X := by rw [hXe]; exact (Pu.refl wr).alloc _
        have k8 : Blk X wr.heap.size 113 #[.string ⟨pk.toArray⟩, .int .i64 pz] := by rw [hXe]; exact Blk.new _ _ _
        have HXe := Lib.hid hXe
        clear hXe hsl hcl hp
        replace kA := kA.pu pX
        replace kB := kB.pu pX
        replace hz1 := hz1.pu pX
        replace hx1 := hx1.pu pX
        replace pZ1 := pZ1.trans pX
        have hszX : Z.heap.size ≤ X.heap.size := Nat.le_trans hsz1 pX.size
        have hwi : IntKind.i64.wrap ((i : Int) + 1) = (i : Int) + 1 := IntWalk.i64_in _ (by omega)
        clear hsz1
        by_cases hq1 : pz < -1099511627776
        · have hd1 : decide (pz < -1099511627776) = true := decide_eq_true hq1
          have hno := Lib.hid (okM_stop (rest := rest) Hp.out (by unfold okPart inR; rw [decide_eq_false (show ¬ -1099511627776 ≤ pz by omega)]; rfl))
          go_wp2_with fail
          rw [← HXe.out]
          have pd : Pu X X.drew := (Pu.refl X).drew
          refine wp_region_X 3 (fun t => t.cell? ⟨b5, 0, none⟩ = some (.bool g1) ∧ t.cell? ⟨b5, 1, none⟩ = some (.slice A1 n1 c1) ∧ t.cell? ⟨b5, 2, none⟩ = some (.pointer m1) ∧ t.cell? ⟨b6, 0, none⟩ = some (.slice An nx cn) ∧ t.cell? ⟨b6, 1, none⟩ = some (.slice Af nx cf) ∧ t.cell? ⟨b6, 2, none⟩ = some (.int .i64 s1) ∧ t.cell? ⟨b6, 3, none⟩ = some (.slice A3 n3 c3)) (by kernel_rfl) ⟨(kA.pu pd).cell 0, (kA.pu pd).cell 1, (kA.pu pd).cell 2, (kB.pu pd).cell 0, (kB.pu pd).cell 1, (kB.pu pd).cell 2, (kB.pu pd).cell 3⟩ ?_
          generalize X.drew = V at pd ⊢
          refine wpX_take 0 (v := ?_) (by kernel_rfl) rfl (by kernel_rfl) (fun _ _ _ h => h) (Or.inl ⟨by rfl, ?_⟩) ?_
          rotate_left
          · (intro t hSw; (try dsimp only at hSw); go_simp; try with_reducible rfl)
          simp only [Act.put, List.setIfInBounds_toArray, List.set_cons_zero, List.set_cons_succ]
          refine wpX_take 1 (v := ?_) (by kernel_rfl) rfl (by kernel_rfl) (fun _ _ _ h => h) (Or.inl ⟨by rfl, ?_⟩) ?_
          rotate_left
          · (intro t hSw; (try dsimp only at hSw); go_simp; try with_reducible rfl)
          simp only [Act.put, List.setIfInBounds_toArray, List.set_cons_zero, List.set_cons_succ]
          have k2V := k2.pu (pZ1.trans pd)
          have k3V := k3.pu (pZ1.trans pd)
          have u0 := k2V.cell 0
          have u1 := k2V.cell 1
          have u2 := k2V.cell 2
          have fu0 := k2V.frozen 0
          have fu1 := k2V.frozen 1
          have fu2 := k2V.frozen 2
          have hs3 := Hsz.out
          obtain ⟨k2a, e2⟩ := over_3 k2V (.bool g1) (.slice A1 n1 c1) (.pointer m1)
          have kA1 := (kA.pu pd).fr e2 (by omega)
          have kB1 := (kB.pu pd).fr e2 (by omega)
          have k3a := k3V.fr e2 (by omega)
          have hlo1 : ∀ j, j = w.heap.size + 1 → j < Z.heap.size := fun j hj => by have := pZ0.size; omega
          have hlo2 : ∀ j, j = w.heap.size + 1 + 1 → j < Z.heap.size := fun j hj => by have := pZ0.size; omega
          clear hs3
          have HF := Lib.hid (And.intro k2a (And.intro e2 (And.intro kA1 (And.intro kB1 k3a))))
          clear k2a e2 kA1 kB1
          refine wpX_one 2 (by kernel_rfl) rfl (by decide) (fun K hK => ?_)
          go_simp
          refine hK.out _ _ ⟨HF.out.2.2.1.cell 0, HF.out.2.2.1.cell 1, HF.out.2.2.1.cell 2, HF.out.2.2.2.1.cell 0, HF.out.2.2.2.1.cell 1, HF.out.2.2.2.1.cell 2, HF.out.2.2.2.1.cell 3⟩ ?_
          clear hK K
          try simp only [Act.put, List.setIfInBounds_toArray, List.set_cons_zero, List.set_cons_succ]
          have t0 := k3a.cell 0
          have t1 := k3a.cell 1
          have t2 := k3a.cell 2
          have t3 := k3a.cell 3
          have ft0 := k3a.frozen 0
          have ft1 := k3a.frozen 1
          have ft2 := k3a.frozen 2
          have ft3 := k3a.frozen 3
          have hb23 : ¬ (w.heap.size + 1 = w.heap.size + 1 + 1) := by omega
          obtain ⟨k3b, e3⟩ := over_T k3a (.slice An nx cn) (.slice Af nx cf) (.int .i64 s1) (.slice A3 n3 c3)
          have k2b := HF.out.1.fr e3 hb23
          have hzV := ((hz1.pu pd).frT HF.out.2.1 (fun g hg => hlo1 g hg) (typed_blk1 k2V (by decide))).frT e3 (fun g hg => hlo2 g hg) (typed_blk1 k3a (by decide))
          have hxV := ((hx1.pu pd).frT HF.out.2.1 (typed3_blk k2V (by decide) (by decide) (by decide))).frT e3 (typed3_blk k3a (by decide) (by decide) (by decide))
          have pwV := ((pW.trans (pZ1.trans pd)).step HF.out.2.1 (fun j hj => by
              have e' : j = w.heap.size + 1 := hj
              omega)).step e3 (fun j hj => by
              have e' : j = w.heap.size + 1 + 1 := hj
              omega)
          have r0 := k2b.cell 0
          have r1 := k2b.cell 1
          have r2 := k2b.cell 2
          have q0 := k3b.cell 0
          have q1 := k3b.cell 1
          have q2 := k3b.cell 2
          have q3 := k3b.cell 3
          have HG := Lib.hid (And.intro hzV (And.intro hxV pwV))
          clear k3a k3b e3 k2b hzV hxV pwV hb23 hlo1 hlo2
          refine wpX_tail2 rfl (by kernel_rfl) ?_
          go_wp2_with fail
          exact bodyPost_ret (v := .tuple #[.agg #[.bool g1, .slice A1 n1 c1, .pointer m1], .agg #[.slice An nx cn, .slice Af nx cf, .int .i64 s1, .slice A3 n3 c3], .bool false]) (by simp [results, Tryz.results16, go_sem, r0, r1, r2, q0, q1, q2, q3]) rfl ⟨_, false, An, nx, cn, Af, cf, ⟨s1, A3, n3, c3⟩, _, rfl, hno.out.symm, HG.out.1.lo_ hlo0, (fun h => by cases h), by omega, HG.out.2.1.le (by omega), HG.out.2.2⟩
        have hd1 : decide (pz < -1099511627776) = false := decide_eq_false hq1
        by_cases hq2 : 1099511627776 < pz
        · have hd2 : decide (1099511627776 < pz) = true := decide_eq_true hq2
          have hno := Lib.hid (okM_stop (rest := rest) Hp.out (by unfold okPart inR; rw [decide_eq_false (show ¬ pz ≤ 1099511627776 by omega)]; simp))
          go_wp2_with fail
          rw [← HXe.out]
          have pd : Pu X X.drew := (Pu.refl X).drew
          refine wp_region_X 3 (fun t => t.cell? ⟨b5, 0, none⟩ = some (.bool g1) ∧ t.cell? ⟨b5, 1, none⟩ = some (.slice A1 n1 c1) ∧ t.cell? ⟨b5, 2, none⟩ = some (.pointer m1) ∧ t.cell? ⟨b6, 0, none⟩ = some (.slice An nx cn) ∧ t.cell? ⟨b6, 1, none⟩ = some (.slice Af nx cf) ∧ t.cell? ⟨b6, 2, none⟩ = some (.int .i64 s1) ∧ t.cell? ⟨b6, 3, none⟩ = some (.slice A3 n3 c3)) (by kernel_rfl) ⟨(kA.pu pd).cell 0, (kA.pu pd).cell 1, (kA.pu pd).cell 2, (kB.pu pd).cell 0, (kB.pu pd).cell 1, (kB.pu pd).cell 2, (kB.pu pd).cell 3⟩ ?_
          generalize X.drew = V at pd ⊢
          refine wpX_take 0 (v := ?_) (by kernel_rfl) rfl (by kernel_rfl) (fun _ _ _ h => h) (Or.inl ⟨by rfl, ?_⟩) ?_
          rotate_left
          · (intro t hSw; (try dsimp only at hSw); go_simp; try with_reducible rfl)
          simp only [Act.put, List.setIfInBounds_toArray, List.set_cons_zero, List.set_cons_succ]
          refine wpX_take 1 (v := ?_) (by kernel_rfl) rfl (by kernel_rfl) (fun _ _ _ h => h) (Or.inl ⟨by rfl, ?_⟩) ?_
          rotate_left
          · (intro t hSw; (try dsimp only at hSw); go_simp; try with_reducible rfl)
          simp only [Act.put, List.setIfInBounds_toArray, List.set_cons_zero, List.set_cons_succ]
          have k2V := k2.pu (pZ1.trans pd)
          have k3V := k3.pu (pZ1.trans pd)
          have u0 := k2V.cell 0
          have u1 := k2V.cell 1
          have u2 := k2V.cell 2
          have fu0 := k2V.frozen 0
          have fu1 := k2V.frozen 1
          have fu2 := k2V.frozen 2
          have hs3 := Hsz.out
          obtain ⟨k2a, e2⟩ := over_3 k2V (.bool g1) (.slice A1 n1 c1) (.pointer m1)
          have kA1 := (kA.pu pd).fr e2 (by omega)
          have kB1 := (kB.pu pd).fr e2 (by omega)
          have k3a := k3V.fr e2 (by omega)
          have hlo1 : ∀ j, j = w.heap.size + 1 → j < Z.heap.size := fun j hj => by have := pZ0.size; omega
          have hlo2 : ∀ j, j = w.heap.size + 1 + 1 → j < Z.heap.size := fun j hj => by have := pZ0.size; omega
          clear hs3
          have HF := Lib.hid (And.intro k2a (And.intro e2 (And.intro kA1 (And.intro kB1 k3a))))
          clear k2a e2 kA1 kB1
          refine wpX_one 2 (by kernel_rfl) rfl (by decide) (fun K hK => ?_)
          go_simp
          refine hK.out _ _ ⟨HF.out.2.2.1.cell 0, HF.out.2.2.1.cell 1, HF.out.2.2.1.cell 2, HF.out.2.2.2.1.cell 0, HF.out.2.2.2.1.cell 1, HF.out.2.2.2.1.cell 2, HF.out.2.2.2.1.cell 3⟩ ?_
          clear hK K
          try simp only [Act.put, List.setIfInBounds_toArray, List.set_cons_zero, List.set_cons_succ]
          have t0 := k3a.cell 0
          have t1 := k3a.cell 1
          have t2 := k3a.cell 2
          have t3 := k3a.cell 3
          have ft0 := k3a.frozen 0
          have ft1 := k3a.frozen 1
          have ft2 := k3a.frozen 2
          have ft3 := k3a.frozen 3
          have hb23 : ¬ (w.heap.size + 1 = w.heap.size + 1 + 1) := by omega
          obtain ⟨k3b, e3⟩ := over_T k3a (.slice An nx cn) (.slice Af nx cf) (.int .i64 s1) (.slice A3 n3 c3)
          have k2b := HF.out.1.fr e3 hb23
          have hzV := ((hz1.pu pd).frT HF.out.2.1 (fun g hg => hlo1 g hg) (typed_blk1 k2V (by decide))).frT e3 (fun g hg => hlo2 g hg) (typed_blk1 k3a (by decide))
          have hxV := ((hx1.pu pd).frT HF.out.2.1 (typed3_blk k2V (by decide) (by decide) (by decide))).frT e3 (typed3_blk k3a (by decide) (by decide) (by decide))
          have pwV := ((pW.trans (pZ1.trans pd)).step HF.out.2.1 (fun j hj => by
              have e' : j = w.heap.size + 1 := hj
              omega)).step e3 (fun j hj => by
              have e' : j = w.heap.size + 1 + 1 := hj
              omega)
          have r0 := k2b.cell 0
          have r1 := k2b.cell 1
          have r2 := k2b.cell 2
          have q0 := k3b.cell 0
          have q1 := k3b.cell 1
          have q2 := k3b.cell 2
          have q3 := k3b.cell 3
          have HG := Lib.hid (And.intro hzV (And.intro hxV pwV))
          clear k3a k3b e3 k2b hzV hxV pwV hb23 hlo1 hlo2
          refine wpX_tail2 rfl (by kernel_rfl) ?_
          go_wp2_with fail
          exact bodyPost_ret (v := .tuple #[.agg #[.bool g1, .slice A1 n1 c1, .pointer m1], .agg #[.slice An nx cn, .slice Af nx cf, .int .i64 s1, .slice A3 n3 c3], .bool false]) (by simp [results, Tryz.results16, go_sem, r0, r1, r2, q0, q1, q2, q3]) rfl ⟨_, false, An, nx, cn, Af, cf, ⟨s1, A3, n3, c3⟩, _, rfl, hno.out.symm, HG.out.1.lo_ hlo0, (fun h => by cases h), by omega, HG.out.2.1.le (by omega), HG.out.2.2⟩
        have hd2 : decide (1099511627776 < pz) = false := decide_eq_false hq2
        by_cases hq3 : 40 < pk.length
        · have hd3 : decide ((40 : Int) < (pk.length : Int)) = true := by simp; omega
          have hno := Lib.hid (okM_stop (rest := rest) Hp.out (by unfold okPart; rw [decide_eq_false (show ¬ pk.length ≤ 40 by omega)]; simp))
          go_wp2_with fail
          rw [← HXe.out]
          have pd : Pu X X.drew := (Pu.refl X).drew
          refine wp_region_X 3 (fun t => t.cell? ⟨b5, 0, none⟩ = some (.bool g1) ∧ t.cell? ⟨b5, 1, none⟩ = some (.slice A1 n1 c1) ∧ t.cell? ⟨b5, 2, none⟩ = some (.pointer m1) ∧ t.cell? ⟨b6, 0, none⟩ = some (.slice An nx cn) ∧ t.cell? ⟨b6, 1, none⟩ = some (.slice Af nx cf) ∧ t.cell? ⟨b6, 2, none⟩ = some (.int .i64 s1) ∧ t.cell? ⟨b6, 3, none⟩ = some (.slice A3 n3 c3)) (by kernel_rfl) ⟨(kA.pu pd).cell 0, (kA.pu pd).cell 1, (kA.pu pd).cell 2, (kB.pu pd).cell 0, (kB.pu pd).cell 1, (kB.pu pd).cell 2, (kB.pu pd).cell 3⟩ ?_
          generalize X.drew = V at pd ⊢
          refine wpX_take 0 (v := ?_) (by kernel_rfl) rfl (by kernel_rfl) (fun _ _ _ h => h) (Or.inl ⟨by rfl, ?_⟩) ?_
          rotate_left
          · (intro t hSw; (try dsimp only at hSw); go_simp; try with_reducible rfl)
          simp only [Act.put, List.setIfInBounds_toArray, List.set_cons_zero, List.set_cons_succ]
          refine wpX_take 1 (v := ?_) (by kernel_rfl) rfl (by kernel_rfl) (fun _ _ _ h => h) (Or.inl ⟨by rfl, ?_⟩) ?_
          rotate_left
          · (intro t hSw; (try dsimp only at hSw); go_simp; try with_reducible rfl)
          simp only [Act.put, List.setIfInBounds_toArray, List.set_cons_zero, List.set_cons_succ]
          have k2V := k2.pu (pZ1.trans pd)
          have k3V := k3.pu (pZ1.trans pd)
          have u0 := k2V.cell 0
          have u1 := k2V.cell 1
          have u2 := k2V.cell 2
          have fu0 := k2V.frozen 0
          have fu1 := k2V.frozen 1
          have fu2 := k2V.frozen 2
          have hs3 := Hsz.out
          obtain ⟨k2a, e2⟩ := over_3 k2V (.bool g1) (.slice A1 n1 c1) (.pointer m1)
          have kA1 := (kA.pu pd).fr e2 (by omega)
          have kB1 := (kB.pu pd).fr e2 (by omega)
          have k3a := k3V.fr e2 (by omega)
          have hlo1 : ∀ j, j = w.heap.size + 1 → j < Z.heap.size := fun j hj => by have := pZ0.size; omega
          have hlo2 : ∀ j, j = w.heap.size + 1 + 1 → j < Z.heap.size := fun j hj => by have := pZ0.size; omega
          clear hs3
          have HF := Lib.hid (And.intro k2a (And.intro e2 (And.intro kA1 (And.intro kB1 k3a))))
          clear k2a e2 kA1 kB1
          refine wpX_one 2 (by kernel_rfl) rfl (by decide) (fun K hK => ?_)
          go_simp
          refine hK.out _ _ ⟨HF.out.2.2.1.cell 0, HF.out.2.2.1.cell 1, HF.out.2.2.1.cell 2, HF.out.2.2.2.1.cell 0, HF.out.2.2.2.1.cell 1, HF.out.2.2.2.1.cell 2, HF.out.2.2.2.1.cell 3⟩ ?_
          clear hK K
          try simp only [Act.put, List.setIfInBounds_toArray, List.set_cons_zero, List.set_cons_succ]
          have t0 := k3a.cell 0
          have t1 := k3a.cell 1
          have t2 := k3a.cell 2
          have t3 := k3a.cell 3
          have ft0 := k3a.frozen 0
          have ft1 := k3a.frozen 1
          have ft2 := k3a.frozen 2
          have ft3 := k3a.frozen 3
          have hb23 : ¬ (w.heap.size + 1 = w.heap.size + 1 + 1) := by omega
          obtain ⟨k3b, e3⟩ := over_T k3a (.slice An nx cn) (.slice Af nx cf) (.int .i64 s1) (.slice A3 n3 c3)
          have k2b := HF.out.1.fr e3 hb23
          have hzV := ((hz1.pu pd).frT HF.out.2.1 (fun g hg => hlo1 g hg) (typed_blk1 k2V (by decide))).frT e3 (fun g hg => hlo2 g hg) (typed_blk1 k3a (by decide))
          have hxV := ((hx1.pu pd).frT HF.out.2.1 (typed3_blk k2V (by decide) (by decide) (by decide))).frT e3 (typed3_blk k3a (by decide) (by decide) (by decide))
          have pwV := ((pW.trans (pZ1.trans pd)).step HF.out.2.1 (fun j hj => by
              have e' : j = w.heap.size + 1 := hj
              omega)).step e3 (fun j hj => by
              have e' : j = w.heap.size + 1 + 1 := hj
              omega)
          have r0 := k2b.cell 0
          have r1 := k2b.cell 1
          have r2 := k2b.cell 2
          have q0 := k3b.cell 0
          have q1 := k3b.cell 1
          have q2 := k3b.cell 2
          have q3 := k3b.cell 3
          have HG := Lib.hid (And.intro hzV (And.intro hxV pwV))
          clear k3a k3b e3 k2b hzV hxV pwV hb23 hlo1 hlo2
          refine wpX_tail2 rfl (by kernel_rfl) ?_
          go_wp2_with fail
          exact bodyPost_ret (v := .tuple #[.agg #[.bool g1, .slice A1 n1 c1, .pointer m1], .agg #[.slice An nx cn, .slice Af nx cf, .int .i64 s1, .slice A3 n3 c3], .bool false]) (by simp [results, Tryz.results16, go_sem, r0, r1, r2, q0, q1, q2, q3]) rfl ⟨_, false, An, nx, cn, Af, cf, ⟨s1, A3, n3, c3⟩, _, rfl, hno.out.symm, HG.out.1.lo_ hlo0, (fun h => by cases h), by omega, HG.out.2.1.le (by omega), HG.out.2.2⟩
        have hd3 : decide ((40 : Int) < (pk.length : Int)) = false := by simp; omega
        obtain ⟨nm, hnm⟩ : ∃ nm, namedM pk = nm := ⟨_, rfl⟩
        have hcall := fun V => named_any pk V hkl
        rw [hnm] at hcall
        have Hcall := Lib.hid hcall
        have Hnm := Lib.hid hnm
        clear hcall hnm
        go_wp2_with fail
        refine (Hcall.out _).mono ?_
        rintro e u ⟨rfl, pu⟩
        rw [← HXe.out] at pu
        replace kA := kA.pu pu
        replace kB := kB.pu pu
        replace hz1 := hz1.pu pu
        replace hx1 := hx1.pu pu
        replace pZ1 := pZ1.trans pu
        replace k8 := k8.pu pu
        have hszU : Z.heap.size ≤ u.heap.size := Nat.le_trans hszX pu.size
        clear Hcall x0 x1 pX pu
        cases nm with
        | false =>
          have hno := Lib.hid (okM_stop (rest := rest) Hp.out (by unfold okPart; rw [Hnm.out]; simp))
          go_wp2_with fail
          have pd : Pu u u.drew := (Pu.refl u).drew
          refine wp_region_X 3 (fun t => t.cell? ⟨b5, 0, none⟩ = some (.bool g1) ∧ t.cell? ⟨b5, 1, none⟩ = some (.slice A1 n1 c1) ∧ t.cell? ⟨b5, 2, none⟩ = some (.pointer m1) ∧ t.cell? ⟨b6, 0, none⟩ = some (.slice An nx cn) ∧ t.cell? ⟨b6, 1, none⟩ = some (.slice Af nx cf) ∧ t.cell? ⟨b6, 2, none⟩ = some (.int .i64 s1) ∧ t.cell? ⟨b6, 3, none⟩ = some (.slice A3 n3 c3)) (by kernel_rfl) ⟨(kA.pu pd).cell 0, (kA.pu pd).cell 1, (kA.pu pd).cell 2, (kB.pu pd).cell 0, (kB.pu pd).cell 1, (kB.pu pd).cell 2, (kB.pu pd).cell 3⟩ ?_
          generalize u.drew = V at pd ⊢
          refine wpX_take 0 (v := ?_) (by kernel_rfl) rfl (by kernel_rfl) (fun _ _ _ h => h) (Or.inl ⟨by rfl, ?_⟩) ?_
          rotate_left
          · (intro t hSw; (try dsimp only at hSw); go_simp; try with_reducible rfl)
          simp only [Act.put, List.setIfInBounds_toArray, List.set_cons_zero, List.set_cons_succ]
          refine wpX_take 1 (v := ?_) (by kernel_rfl) rfl (by kernel_rfl) (fun _ _ _ h => h) (Or.inl ⟨by rfl, ?_⟩) ?_
          rotate_left
          · (intro t hSw; (try dsimp only at hSw); go_simp; try with_reducible rfl)
          simp only [Act.put, List.setIfInBounds_toArray, List.set_cons_zero, List.set_cons_succ]
          have k2V := k2.pu (pZ1.trans pd)
          have k3V := k3.pu (pZ1.trans pd)
          have u0 := k2V.cell 0
          have u1 := k2V.cell 1
          have u2 := k2V.cell 2
          have fu0 := k2V.frozen 0
          have fu1 := k2V.frozen 1
          have fu2 := k2V.frozen 2
          have hs3 := Hsz.out
          obtain ⟨k2a, e2⟩ := over_3 k2V (.bool g1) (.slice A1 n1 c1) (.pointer m1)
          have kA1 := (kA.pu pd).fr e2 (by omega)
          have kB1 := (kB.pu pd).fr e2 (by omega)
          have k3a := k3V.fr e2 (by omega)
          have hlo1 : ∀ j, j = w.heap.size + 1 → j < Z.heap.size := fun j hj => by have := pZ0.size; omega
          have hlo2 : ∀ j, j = w.heap.size + 1 + 1 → j < Z.heap.size := fun j hj => by have := pZ0.size; omega
          clear hs3
          have HF := Lib.hid (And.intro k2a (And.intro e2 (And.intro kA1 (And.intro kB1 k3a))))
          clear k2a e2 kA1 kB1
          refine wpX_one 2 (by kernel_rfl) rfl (by decide) (fun K hK => ?_)
          go_simp
          refine hK.out _ _ ⟨HF.out.2.2.1.cell 0, HF.out.2.2.1.cell 1, HF.out.2.2.1.cell 2, HF.out.2.2.2.1.cell 0, HF.out.2.2.2.1.cell 1, HF.out.2.2.2.1.cell 2, HF.out.2.2.2.1.cell 3⟩ ?_
          clear hK K
          try simp only [Act.put, List.setIfInBounds_toArray, List.set_cons_zero, List.set_cons_succ]
          have t0 := k3a.cell 0
          have t1 := k3a.cell 1
          have t2 := k3a.cell 2
          have t3 := k3a.cell 3
          have ft0 := k3a.frozen 0
          have ft1 := k3a.frozen 1
          have ft2 := k3a.frozen 2
          have ft3 := k3a.frozen 3
          have hb23 : ¬ (w.heap.size + 1 = w.heap.size + 1 + 1) := by omega
          obtain ⟨k3b, e3⟩ := over_T k3a (.slice An nx cn) (.slice Af nx cf) (.int .i64 s1) (.slice A3 n3 c3)
          have k2b := HF.out.1.fr e3 hb23
          have hzV := ((hz1.pu pd).frT HF.out.2.1 (fun g hg => hlo1 g hg) (typed_blk1 k2V (by decide))).frT e3 (fun g hg => hlo2 g hg) (typed_blk1 k3a (by decide))
          have hxV := ((hx1.pu pd).frT HF.out.2.1 (typed3_blk k2V (by decide) (by decide) (by decide))).frT e3 (typed3_blk k3a (by decide) (by decide) (by decide))
          have pwV := ((pW.trans (pZ1.trans pd)).step HF.out.2.1 (fun j hj => by
              have e' : j = w.heap.size + 1 := hj
              omega)).step e3 (fun j hj => by
              have e' : j = w.heap.size + 1 + 1 := hj
              omega)
          have r0 := k2b.cell 0
          have r1 := k2b.cell 1
          have r2 := k2b.cell 2
          have q0 := k3b.cell 0
          have q1 := k3b.cell 1
          have q2 := k3b.cell 2
          have q3 := k3b.cell 3
          have HG := Lib.hid (And.intro hzV (And.intro hxV pwV))
          clear k3a k3b e3 k2b hzV hxV pwV hb23 hlo1 hlo2
          refine wpX_tail2 rfl (by kernel_rfl) ?_
          go_wp2_with fail
          exact bodyPost_ret (v := .tuple #[.agg #[.bool g1, .slice A1 n1 c1, .pointer m1], .agg #[.slice An nx cn, .slice Af nx cf, .int .i64 s1, .slice A3 n3 c3], .bool false]) (by simp [results, Tryz.results16, go_sem, r0, r1, r2, q0, q1, q2, q3]) rfl ⟨_, false, An, nx, cn, Af, cf, ⟨s1, A3, n3, c3⟩, _, rfl, hno.out.symm, HG.out.1.lo_ hlo0, (fun h => by cases h), by omega, HG.out.2.1.le (by omega), HG.out.2.2⟩
        | true =>
          have hpok : okPart (pk, pz) = true := by
              unfold okPart inR
              rw [Hnm.out, decide_eq_true (show -1099511627776 ≤ pz by omega), decide_eq_true (show pz ≤ 1099511627776 by omega), decide_eq_true (show pk.length ≤ 40 by omega)]
              rfl
          have hallN : ∀ p ∈ ps.take (i + 1), okPart p = true := fun p hp => by
              rw [List.take_add_one, Hp.out] at hp
              rcases List.mem_append.1 hp with h | h
              · exact hall p h
              · have e : p = (pk, pz) := by simpa using h
                rw [e]
                exact hpok
          have hsn := Lib.hid (sumM_next Hp.out)
          have hup1 := sumM_upto (M := 1099511627776) i (by omega) (fun p hp => inR_abs (by
              have h := hall p hp
              unfold okPart at h
              simp only [Bool.and_eq_true] at h
              exact h.1.1))
          have hln1 := sumM_len ps i (by omega)
          have hzab : pz.natAbs ≤ 1099511627776 := by omega
          have HA := Lib.hid (And.intro hallN (And.intro hup1 (And.intro hln1 hzab)))
          clear hall hallN hpok hup1 hln1 hzab
          have hi12 : i < 12 := by omega
          go_wp2_with fail
          have pd : Pu u u.drew := (Pu.refl u).drew
          have Htimes := Lib.hid (show ∀ V (hV : Pu u V) (a b : Value), TM V a 0 [(pk, 1)] → ZR V b pz → Calls Tryz.prog 29 #[a, b] V fun e w' => ∃ v, e = .returned v ∧ TMO w' V.heap.size v (0 * pz) (oneM (pk, pz)) ∧ Pu V w' from fun V hV a b ha hb => ttimes_any a b 0 pz [(pk, 1)] 1099511627776 V ha hb (fun g hg => by
              rw [List.mem_singleton.1 hg, Int.one_mul]
              exact HA.out.2.2.2) (by simp) (up_from (n := 1100000 * 1099511627776) (a := 3) (b := 30000) (by decide) (by decide)) (up_from (n := pz.natAbs) (a := 3) (b := 30000) (Nat.lt_of_le_of_lt HA.out.2.2.2 (by decide)) (by decide)) (fun g hg => by
              rw [List.mem_singleton.1 hg]
              show (1 : Int).natAbs < _
              exact up_one (by decide)) up_zero)
          have hKi : i * 1099511627776 + 1100000 * 1099511627776 < 4294967296 ^ 3 := Nat.lt_of_le_of_lt (Nat.add_le_add_right (Nat.mul_le_mul_right _ (Nat.le_of_lt hi12)) _) (by decide)
          have hKi2 := up_from (n := i * 1099511627776 + 1100000 * 1099511627776) (a := 3) (b := 30000) hKi (by decide)
          have hrr : rest.natAbs < 4294967296 ^ 30000 := up_from (n := rest.natAbs) (a := 3) (b := 30000) (Nat.lt_of_le_of_lt (show rest.natAbs ≤ 9223372036854775808 by omega) (by decide)) (by decide)
          have Hplus := Lib.hid (show ∀ V (hV : Pu u V) (q : Nat) (g2 : Bool) (Aq : Option Addr) (n2 c2 : Nat) (m2 : Option Addr), TM V (.agg #[.bool g2, .slice Aq n2 c2, .pointer m2]) (0 * pz) (oneM (pk, pz)) → Blk V q 33 #[.bool g2, .slice Aq n2 c2, .pointer m2] → Calls Tryz.prog 31 #[.agg #[.bool g1, .slice A1 n1 c1, .pointer m1], .slice (some ⟨q, 0, none⟩) 1 1] V fun e w' => ∃ v, e = .returned v ∧ TMO w' V.heap.size v (rest + 0 * pz * 1) (addP (sumM (ps.take i)) (pk, pz)) ∧ Pu V w' from fun V hV q g2 Aq n2 c2 m2 h1 h2 => tplus_any _ rest (0 * pz) _ _ (i * 1099511627776) 1099511627776 V q g2 Aq n2 c2 m2 (hz1.tm.pu hV) h2 h1 HA.out.2.1 ((oneM_upto (pk, pz)).le HA.out.2.2.2) (by
              have h3 := oneM_len (pk, pz)
              have h4 := HA.out.2.2.1
              omega) hKi2 hrr (by rw [Int.zero_mul]; exact up_zero))
          clear hKi hKi2 hrr
          refine wp_region_stableA2 9 (fun _ w => Pu u w) (fun _ => Pu) (fun io => match io with | 0 => fun vv_ _ => vv_ = .agg #[.bool g1, .slice A1 n1 c1, .pointer m1] | 1 => fun vv_ _ => vv_ = .pointer (some ⟨wr.heap.size, 0, none⟩) | 2 => fun vv_ _ => vv_ = .string ⟨pk.toArray⟩ | 3 => fun v w => ∃ g A n c m, v = .agg #[.bool g, .slice A n c, .pointer m] ∧ TM w (.agg #[.bool g, .slice A n c, .pointer m]) 0 [(pk, 1)] | 4 => fun vv_ _ => vv_ = .pointer (some ⟨wr.heap.size, 1, none⟩) | 5 => fun vv_ _ => vv_ = .int .i64 pz | 6 => fun v w => ∃ g A n c, v = .agg #[.bool g, .slice A n c] ∧ ZR w (.agg #[.bool g, .slice A n c]) pz | 7 => fun v w => ∃ g A n c m, v = .agg #[.bool g, .slice A n c, .pointer m] ∧ TM w (.agg #[.bool g, .slice A n c, .pointer m]) (0 * pz) (oneM (pk, pz)) | 8 => fun v w => ∃ q g A n c m, v = .slice (some ⟨q, 0, none⟩) 1 1 ∧ Blk w q 33 #[.bool g, .slice A n c, .pointer m] ∧ TM w (.agg #[.bool g, .slice A n c, .pointer m]) (0 * pz) (oneM (pk, pz)) | _ => fun _ _ => True) [some 62, some 63, some 64, some 65, some 66, some 67, some 68, some 69, some 70] (by kernel_rfl) (by kernel_rfl) rfl pd ?_ ?_ ?_ ?_
          · intro ko lst u u' hk hLk hI hR
            exact hI.trans hR
          · intro io ko v u u' hi hk hik h hR0
            have hR := hR0
            match io, hi, hik, h with
            | 0, _, _, h => exact h
            | 1, _, _, h => exact h
            | 2, _, _, h => exact h
            | 3, _, hik, h =>
              replace h : ∃ g A n c m, v = .agg #[.bool g, .slice A n c, .pointer m] ∧ TM u (.agg #[.bool g, .slice A n c, .pointer m]) 0 [(pk, 1)] := h
              obtain ⟨g, A, n, c, m, e, h⟩ := h
              exact ⟨g, A, n, c, m, e, h.pu hR⟩
            | 4, _, _, h => exact h
            | 5, _, _, h => exact h
            | 6, _, hik, h =>
              replace h : ∃ g A n c, v = .agg #[.bool g, .slice A n c] ∧ ZR u (.agg #[.bool g, .slice A n c]) pz := h
              obtain ⟨g, A, n, c, e, h⟩ := h
              exact ⟨g, A, n, c, e, h.pu hR⟩
            | 7, _, hik, h =>
              replace h : ∃ g A n c m, v = .agg #[.bool g, .slice A n c, .pointer m] ∧ TM u (.agg #[.bool g, .slice A n c, .pointer m]) (0 * pz) (oneM (pk, pz)) := h
              obtain ⟨g, A, n, c, m, e, h⟩ := h
              exact ⟨g, A, n, c, m, e, h.pu hR⟩
            | 8, _, hik, h =>
              replace h : ∃ q g A n c m, v = .slice (some ⟨q, 0, none⟩) 1 1 ∧ Blk u q 33 #[.bool g, .slice A n c, .pointer m] ∧ TM u (.agg #[.bool g, .slice A n c, .pointer m]) (0 * pz) (oneM (pk, pz)) := h
              obtain ⟨q, g, A, n, c, m, e, h, h'⟩ := h
              exact ⟨q, g, A, n, c, m, e, h.pu hR, h'.pu hR⟩
            | _ + 9, hi, _, _ => exact absurd hi (by omega)
          · refine StepsS.cons [] rfl (by kernel_rfl) (fun y lst V hLk hV hp K hK => ?_) ?_
            · try dsimp only at hK
              simp only [putsL, upd, Act.put, List.setIfInBounds_toArray, List.set_cons_zero, List.set_cons_succ, Nat.reduceEqDiff, Nat.succ_ne_zero, Nat.reduceAdd, zero_ne_one_, one_ne_zero_, reduceIte] at hK ⊢
              clear hp
              try dsimp only at hV
              have x0 := (kA.pu hV).cell 0
              have x1 := (kA.pu hV).cell 1
              have x2 := (kA.pu hV).cell 2
              go_simp
              exact hK.out _ _ (Pu.refl _) rfl
            refine StepsS.cons [] rfl (by kernel_rfl) (fun y lst V hLk hV hp K hK => ?_) ?_
            · try dsimp only at hK
              simp only [putsL, upd, Act.put, List.setIfInBounds_toArray, List.set_cons_zero, List.set_cons_succ, Nat.reduceEqDiff, Nat.succ_ne_zero, Nat.reduceAdd, zero_ne_one_, one_ne_zero_, reduceIte] at hK ⊢
              clear hp
              try dsimp only at hV
              go_simp
              exact hK.out _ _ (Pu.refl _) rfl
            refine StepsS.cons [1] rfl (by kernel_rfl) (fun y lst V hLk hV hp K hK => ?_) ?_
            · try dsimp only at hK
              simp only [putsL, upd, Act.put, List.setIfInBounds_toArray, List.set_cons_zero, List.set_cons_succ, Nat.reduceEqDiff, Nat.succ_ne_zero, Nat.reduceAdd, zero_ne_one_, one_ne_zero_, reduceIte] at hK ⊢
              have e1 := hp 1 (by simp)
              clear hp
              try dsimp only at hV e1
              generalize y 1 = z1 at hK e1 ⊢
              subst e1
              have x0 := (k8.pu hV).cell 0
              have x1 := (k8.pu hV).cell 1
              go_simp
              exact hK.out _ _ (Pu.refl _) rfl
            refine StepsS.cons [2] rfl (by kernel_rfl) (fun y lst V hLk hV hp K hK => ?_) ?_
            · try dsimp only at hK
              simp only [putsL, upd, Act.put, List.setIfInBounds_toArray, List.set_cons_zero, List.set_cons_succ, Nat.reduceEqDiff, Nat.succ_ne_zero, Nat.reduceAdd, zero_ne_one_, one_ne_zero_, reduceIte] at hK ⊢
              have e2 := hp 2 (by simp)
              clear hp
              try dsimp only at hV e2
              generalize y 2 = z2 at hK e2 ⊢
              subst e2
              go_simp
              go_at_call 26
              refine (tname_any pk _).mono ?_
              rintro e u1 ⟨v, rfl, h13, p1⟩
              obtain ⟨g, A, n, c, m, rfl⟩ := h13.shape
              go_wp2_with fail
              exact hK.out _ _ p1 ⟨g, A, n, c, m, rfl, h13⟩
            refine StepsS.cons [] rfl (by kernel_rfl) (fun y lst V hLk hV hp K hK => ?_) ?_
            · try dsimp only at hK
              simp only [putsL, upd, Act.put, List.setIfInBounds_toArray, List.set_cons_zero, List.set_cons_succ, Nat.reduceEqDiff, Nat.succ_ne_zero, Nat.reduceAdd, zero_ne_one_, one_ne_zero_, reduceIte] at hK ⊢
              clear hp
              try dsimp only at hV
              go_simp
              exact hK.out _ _ (Pu.refl _) rfl
            refine StepsS.cons [4] rfl (by kernel_rfl) (fun y lst V hLk hV hp K hK => ?_) ?_
            · try dsimp only at hK
              simp only [putsL, upd, Act.put, List.setIfInBounds_toArray, List.set_cons_zero, List.set_cons_succ, Nat.reduceEqDiff, Nat.succ_ne_zero, Nat.reduceAdd, zero_ne_one_, one_ne_zero_, reduceIte] at hK ⊢
              have e4 := hp 4 (by simp)
              clear hp
              try dsimp only at hV e4
              generalize y 4 = z4 at hK e4 ⊢
              subst e4
              have x0 := (k8.pu hV).cell 0
              have x1 := (k8.pu hV).cell 1
              go_simp
              exact hK.out _ _ (Pu.refl _) rfl
            refine StepsS.cons [5] rfl (by kernel_rfl) (fun y lst V hLk hV hp K hK => ?_) ?_
            · try dsimp only at hK
              simp only [putsL, upd, Act.put, List.setIfInBounds_toArray, List.set_cons_zero, List.set_cons_succ, Nat.reduceEqDiff, Nat.succ_ne_zero, Nat.reduceAdd, zero_ne_one_, one_ne_zero_, reduceIte] at hK ⊢
              have e5 := hp 5 (by simp)
              clear hp
              try dsimp only at hV e5
              generalize y 5 = z5 at hK e5 ⊢
              subst e5
              go_simp
              go_at_call 30
              refine (from_any pz _ hz1a hz1b).mono ?_
              rintro e u1 ⟨v, rfl, h15, p1⟩
              obtain ⟨g, A, n, c, rfl⟩ := h15.shape2
              go_wp2_with fail
              exact hK.out _ _ p1 ⟨g, A, n, c, rfl, h15⟩
            refine StepsS.cons [3, 6] rfl (by kernel_rfl) (fun y lst V hLk hV hp K hK => ?_) ?_
            · try dsimp only at hK
              simp only [putsL, upd, Act.put, List.setIfInBounds_toArray, List.set_cons_zero, List.set_cons_succ, Nat.reduceEqDiff, Nat.succ_ne_zero, Nat.reduceAdd, zero_ne_one_, one_ne_zero_, reduceIte] at hK ⊢
              have h3 := hp 3 (by simp)
              have h6 := hp 6 (by simp)
              clear hp
              try dsimp only at hV h3 h6
              generalize y 3 = z3 at hK h3 ⊢
              generalize y 6 = z6 at hK h6 ⊢
              obtain ⟨g3, A3', n3', c3', m3', rfl, h3⟩ := h3
              obtain ⟨g6, A6', n6', c6', rfl, h6⟩ := h6
              go_simp
              go_at_call 29
              refine (Htimes.out _ hV _ _ h3 h6).mono ?_
              rintro e u1 ⟨v, rfl, h16, p1⟩
              obtain ⟨g, A, n, c, m, rfl⟩ := h16.tm.shape
              go_wp2_with fail
              exact hK.out _ _ p1 ⟨g, A, n, c, m, rfl, h16.tm⟩
            refine StepsS.cons [7] rfl (by kernel_rfl) (fun y lst V hLk hV hp K hK => ?_) ?_
            · try dsimp only at hK
              simp only [putsL, upd, Act.put, List.setIfInBounds_toArray, List.set_cons_zero, List.set_cons_succ, Nat.reduceEqDiff, Nat.succ_ne_zero, Nat.reduceAdd, zero_ne_one_, one_ne_zero_, reduceIte] at hK ⊢
              have h7 := hp 7 (by simp)
              clear hp
              try dsimp only at hV h7
              generalize y 7 = z7 at hK h7 ⊢
              obtain ⟨g7, A7, n7, c7, m7, rfl, h7⟩ := h7
              go_simp
              exact hK.out _ _ ((Pu.refl _).alloc _) ⟨_, _, _, _, _, _, rfl, Blk.new _ _ _, h7.pu ((Pu.refl _).alloc _)⟩
            exact StepsS.nil
          · intro y V lst hL hV hp
            have f0 := hp 0 (by decide)
            have f1 := hp 1 (by decide)
            have f2 := hp 2 (by decide)
            have f3 := hp 3 (by decide)
            have f4 := hp 4 (by decide)
            have f5 := hp 5 (by decide)
            have f6 := hp 6 (by decide)
            have f7 := hp 7 (by decide)
            have f8 := hp 8 (by decide)
            clear hp
            try dsimp only at hV f0 f1 f2 f3 f4 f5 f6 f7 f8
            simp only [putsL, upd, Act.put, List.setIfInBounds_toArray, List.set_cons_zero, List.set_cons_succ, Nat.reduceEqDiff, Nat.succ_ne_zero, Nat.reduceAdd, zero_ne_one_, one_ne_zero_, reduceIte]
            generalize y 0 = z0 at f0 ⊢
            generalize y 1 = z1 at f1 ⊢
            generalize y 2 = z2 at f2 ⊢
            generalize y 3 = z3 at f3 ⊢
            generalize y 4 = z4 at f4 ⊢
            generalize y 5 = z5 at f5 ⊢
            generalize y 6 = z6 at f6 ⊢
            generalize y 7 = z7 at f7 ⊢
            generalize y 8 = z8 at f8 ⊢
            subst f0
            subst f1
            subst f2
            subst f4
            subst f5
            clear f3 f6 f7
            obtain ⟨q, g8, A8, n8, c8, m8, rfl, hB8, h8⟩ := f8
            go_wp2_with fail
            refine (Hplus.out _ hV q g8 A8 n8 c8 m8 h8 hB8).mono ?_
            rintro e u1 ⟨v, rfl, hT, p1⟩
            obtain ⟨g9, A9, n9, c9, m9, rfl⟩ := hT.tm.shape
            have pU := hV.trans p1
            have kR := kA.pu pU
            have x0 := kR.cell 0
            have fx0 := kR.frozen 0
            have x1 := kR.cell 1
            have fx1 := kR.frozen 1
            have x2 := kR.cell 2
            have fx2 := kR.frozen 2
            obtain ⟨kR2, eR⟩ := over_3 kR (.bool g9) (.slice A9 n9 c9) (.pointer m9)
            have hT2 := hT.frT eR (fun j hj => by
                have e' : j = b5 := hj
                have := hV.size
                omega) (typed_blk1 kR (by decide))
            have kB2 := (kB.pu pU).fr eR (fun h => hab h.symm)
            have hx2 := (hx1.pu pU).frT eR (typed3_blk kR (by decide) (by decide) (by decide))
            have hP2 := (pZ1.trans pU).step eR (fun j hj => by
                have e' : j = b5 := hj
                omega)
            have k82 := (k8.pu pU).fr eR (k8.ne_ kA (by decide))
            have hTX : TMX (((u1.setCell ⟨b5, 0, none⟩ (.bool g9)).setCell ⟨b5, 1, none⟩ (.slice A9 n9 c9)).setCell ⟨b5, 2, none⟩ (.pointer m9)) Z.heap.size (.agg #[.bool g9, .slice A9 n9 c9, .pointer m9]) rest (sumM (ps.take (i + 1))) := .inr ⟨V.heap.size, Nat.le_trans hszU hV.size, by
                rw [hsn.out]
                have e0 : rest + 0 * pz * 1 = rest := by omega
                rw [e0] at hT2
                exact hT2⟩
            have hszT : Z.heap.size ≤ (((u1.setCell ⟨b5, 0, none⟩ (.bool g9)).setCell ⟨b5, 1, none⟩ (.slice A9 n9 c9)).setCell ⟨b5, 2, none⟩ (.pointer m9)).heap.size := Nat.le_trans (Nat.le_trans hszU pU.size) eR.size
            have HT := Lib.hid (And.intro kR2 (And.intro kB2 (And.intro hx2 (And.intro hP2 (And.intro k82 (And.intro hTX hszT))))))
            clear kR2 kB2 hx2 hP2 k82 hTX hT2 eR kR hT hB8 h8 p1 pU hV hszT pd
            go_wp2_with fail
            generalize (((u1.setCell ⟨b5, 0, none⟩ (.bool g9)).setCell ⟨b5, 1, none⟩ (.slice A9 n9 c9)).setCell ⟨b5, 2, none⟩ (.pointer m9)) = Y at HT ⊢
            have kA3 := HT.out.1
            have kB3 := HT.out.2.1
            have hx3 := HT.out.2.2.1
            have pY := HT.out.2.2.2.1
            have k83 := HT.out.2.2.2.2.1
            have hz3 := HT.out.2.2.2.2.2.1
            have hszY := HT.out.2.2.2.2.2.2
            clear HT kA kB hx1 hz1 k8 Htimes Hplus
            have pd : Pu Y Y.drew := (Pu.refl Y).drew
            have Hrp := Lib.hid (show ∀ V (hV : Pu Y V) (Am : Option Addr) (cm : Nat) (Ag : Option Addr) (cg : Nat) (r2 : RawZ) (q : RawZ) (y : Int), TR V Am 1 cm Ag cg r2 1 → RZ V q.val y → y.natAbs ≤ 1099511627776 → Calls Tryz.prog 45 #[tval An nx cn Af nx cf ⟨s1, A3, n3, c3⟩, tval Am 1 cm Ag 1 cg r2, q.val] V fun e w' => ∃ An' n' cn' Af' cf' r', e = .returned (tval An' n' cn' Af' n' cf' r') ∧ n' ≤ nx + 1 ∧ TR w' An' n' cn' Af' cf' r' (9223372036854775808 + (i + 1) * 1099511627776) ∧ Pu V w' from fun V hV Am cm Ag cg r2 q y h1 h2 h3 => rplusT_any (9223372036854775808 + i * 1099511627776) 1 (9223372036854775808 + (i + 1) * 1099511627776) An nx cn Af cf ⟨s1, A3, n3, c3⟩ Am 1 cm Ag cg r2 q y V (hx3.pu hV) h1 h2 (by omega) (Nat.lt_of_le_of_lt (Nat.add_le_add_left (Nat.mul_le_mul_right _ (show i + 1 ≤ 13 by omega)) _) (by decide)) (Nat.lt_of_le_of_lt h3 (by decide)) (by decide) (by omega))
            refine wp_region_stableA2 7 (fun _ w => Pu Y w) (fun _ => Pu) (fun io => match io with | 0 => fun vv_ _ => vv_ = .agg #[.slice An nx cn, .slice Af nx cf, .int .i64 s1, .slice A3 n3 c3] | 1 => fun vv_ _ => vv_ = .pointer (some ⟨wr.heap.size, 0, none⟩) | 2 => fun vv_ _ => vv_ = .string ⟨pk.toArray⟩ | 3 => fun v w => ∃ Am cm Ag cg s A n c, v = .agg #[.slice Am 1 cm, .slice Ag 1 cg, .int .i64 s, .slice A n c] ∧ TR w Am 1 cm Ag cg ⟨s, A, n, c⟩ 1 | 4 => fun vv_ _ => vv_ = .pointer (some ⟨wr.heap.size, 1, none⟩) | 5 => fun vv_ _ => vv_ = .int .i64 pz | 6 => fun v w => ∃ s A n c yz, v = .agg #[.int .i64 s, .slice A n c] ∧ RZ w (.agg #[.int .i64 s, .slice A n c]) yz ∧ yz.natAbs ≤ 1099511627776 | _ => fun _ _ => True) [some 72, some 73, some 74, some 75, some 76, some 77, some 78] (by kernel_rfl) (by kernel_rfl) rfl pd ?_ ?_ ?_ ?_
            · intro ko lst u u' hk hLk hI hR
              exact hI.trans hR
            · intro io ko v u u' hi hk hik h hR0
              have hR := hR0
              match io, hi, hik, h with
              | 0, _, _, h => exact h
              | 1, _, _, h => exact h
              | 2, _, _, h => exact h
              | 3, _, hik, h =>
                replace h : ∃ Am cm Ag cg s A n c, v = .agg #[.slice Am 1 cm, .slice Ag 1 cg, .int .i64 s, .slice A n c] ∧ TR u Am 1 cm Ag cg ⟨s, A, n, c⟩ 1 := h
                obtain ⟨Am, cm, Ag, cg, s, A, n, c, e, h⟩ := h
                exact ⟨Am, cm, Ag, cg, s, A, n, c, e, h.pu hR⟩
              | 4, _, _, h => exact h
              | 5, _, _, h => exact h
              | 6, _, hik, h =>
                replace h : ∃ s A n c yz, v = .agg #[.int .i64 s, .slice A n c] ∧ RZ u (.agg #[.int .i64 s, .slice A n c]) yz ∧ yz.natAbs ≤ 1099511627776 := h
                obtain ⟨s, A, n, c, y, e, h, h'⟩ := h
                exact ⟨s, A, n, c, y, e, h.pu hR, h'⟩
              | _ + 7, hi, _, _ => exact absurd hi (by omega)
            · refine StepsS.cons [] rfl (by kernel_rfl) (fun y lst V hLk hV hp K hK => ?_) ?_
              · try dsimp only at hK
                simp only [putsL, upd, Act.put, List.setIfInBounds_toArray, List.set_cons_zero, List.set_cons_succ, Nat.reduceEqDiff, Nat.succ_ne_zero, Nat.reduceAdd, zero_ne_one_, one_ne_zero_, reduceIte] at hK ⊢
                clear hp
                try dsimp only at hV
                have x0 := (kB3.pu hV).cell 0
                have x1 := (kB3.pu hV).cell 1
                have x2 := (kB3.pu hV).cell 2
                have x3 := (kB3.pu hV).cell 3
                go_simp
                exact hK.out _ _ (Pu.refl _) rfl
              refine StepsS.cons [] rfl (by kernel_rfl) (fun y lst V hLk hV hp K hK => ?_) ?_
              · try dsimp only at hK
                simp only [putsL, upd, Act.put, List.setIfInBounds_toArray, List.set_cons_zero, List.set_cons_succ, Nat.reduceEqDiff, Nat.succ_ne_zero, Nat.reduceAdd, zero_ne_one_, one_ne_zero_, reduceIte] at hK ⊢
                clear hp
                try dsimp only at hV
                go_simp
                exact hK.out _ _ (Pu.refl _) rfl
              refine StepsS.cons [1] rfl (by kernel_rfl) (fun y lst V hLk hV hp K hK => ?_) ?_
              · try dsimp only at hK
                simp only [putsL, upd, Act.put, List.setIfInBounds_toArray, List.set_cons_zero, List.set_cons_succ, Nat.reduceEqDiff, Nat.succ_ne_zero, Nat.reduceAdd, zero_ne_one_, one_ne_zero_, reduceIte] at hK ⊢
                have e1 := hp 1 (by simp)
                clear hp
                try dsimp only at hV e1
                generalize y 1 = z1 at hK e1 ⊢
                subst e1
                have x0 := (k83.pu hV).cell 0
                have x1 := (k83.pu hV).cell 1
                go_simp
                exact hK.out _ _ (Pu.refl _) rfl
              refine StepsS.cons [2] rfl (by kernel_rfl) (fun y lst V hLk hV hp K hK => ?_) ?_
              · try dsimp only at hK
                simp only [putsL, upd, Act.put, List.setIfInBounds_toArray, List.set_cons_zero, List.set_cons_succ, Nat.reduceEqDiff, Nat.succ_ne_zero, Nat.reduceAdd, zero_ne_one_, one_ne_zero_, reduceIte] at hK ⊢
                have e2 := hp 2 (by simp)
                clear hp
                try dsimp only at hV e2
                generalize y 2 = z2 at hK e2 ⊢
                subst e2
                go_simp
                go_at_call 46
                refine (rname_any pk _).mono ?_
                rintro e u1 ⟨Am, cm, Ag, cg, ⟨s, A, n, c⟩, rfl, h13, p1⟩
                go_wp2_with fail
                exact hK.out _ _ p1 ⟨Am, cm, Ag, cg, s, A, n, c, rfl, h13⟩
              refine StepsS.cons [] rfl (by kernel_rfl) (fun y lst V hLk hV hp K hK => ?_) ?_
              · try dsimp only at hK
                simp only [putsL, upd, Act.put, List.setIfInBounds_toArray, List.set_cons_zero, List.set_cons_succ, Nat.reduceEqDiff, Nat.succ_ne_zero, Nat.reduceAdd, zero_ne_one_, one_ne_zero_, reduceIte] at hK ⊢
                clear hp
                try dsimp only at hV
                go_simp
                exact hK.out _ _ (Pu.refl _) rfl
              refine StepsS.cons [4] rfl (by kernel_rfl) (fun y lst V hLk hV hp K hK => ?_) ?_
              · try dsimp only at hK
                simp only [putsL, upd, Act.put, List.setIfInBounds_toArray, List.set_cons_zero, List.set_cons_succ, Nat.reduceEqDiff, Nat.succ_ne_zero, Nat.reduceAdd, zero_ne_one_, one_ne_zero_, reduceIte] at hK ⊢
                have e4 := hp 4 (by simp)
                clear hp
                try dsimp only at hV e4
                generalize y 4 = z4 at hK e4 ⊢
                subst e4
                have x0 := (k83.pu hV).cell 0
                have x1 := (k83.pu hV).cell 1
                go_simp
                exact hK.out _ _ (Pu.refl _) rfl
              refine StepsS.cons [5] rfl (by kernel_rfl) (fun y lst V hLk hV hp K hK => ?_) ?_
              · try dsimp only at hK
                simp only [putsL, upd, Act.put, List.setIfInBounds_toArray, List.set_cons_zero, List.set_cons_succ, Nat.reduceEqDiff, Nat.succ_ne_zero, Nat.reduceAdd, zero_ne_one_, one_ne_zero_, reduceIte] at hK ⊢
                have e5 := hp 5 (by simp)
                clear hp
                try dsimp only at hV e5
                generalize y 5 = z5 at hK e5 ⊢
                subst e5
                go_simp
                go_at_call 44
                refine (rfrom_int pz _ hz1a hz1b).mono ?_
                rintro e u1 ⟨v, y, rfl, h15, hy, p1⟩
                obtain ⟨s, A, n, c, rfl⟩ := h15.raw
                go_wp2_with fail
                exact hK.out _ _ p1 ⟨s, A, n, c, y, rfl, h15, Nat.le_trans hy HA.out.2.2.2⟩
              exact StepsS.nil
            · intro y V lst hL hV hp
              have f0 := hp 0 (by decide)
              have f1 := hp 1 (by decide)
              have f2 := hp 2 (by decide)
              have f3 := hp 3 (by decide)
              have f4 := hp 4 (by decide)
              have f5 := hp 5 (by decide)
              have f6 := hp 6 (by decide)
              clear hp
              try dsimp only at hV f0 f1 f2 f3 f4 f5 f6
              simp only [putsL, upd, Act.put, List.setIfInBounds_toArray, List.set_cons_zero, List.set_cons_succ, Nat.reduceEqDiff, Nat.succ_ne_zero, Nat.reduceAdd, zero_ne_one_, one_ne_zero_, reduceIte]
              generalize y 0 = z0 at f0 ⊢
              generalize y 1 = z1 at f1 ⊢
              generalize y 2 = z2 at f2 ⊢
              generalize y 3 = z3 at f3 ⊢
              generalize y 4 = z4 at f4 ⊢
              generalize y 5 = z5 at f5 ⊢
              generalize y 6 = z6 at f6 ⊢
              subst f0
              subst f1
              subst f2
              subst f4
              subst f5
              obtain ⟨Am, cm, Ag, cg, sm, Am2, nm2, cm2, rfl, h3⟩ := f3
              obtain ⟨s6, A6, n6, c6, y6, rfl, h6, hy6⟩ := f6
              go_wp2_with fail
              refine (Hrp.out _ hV Am cm Ag cg ⟨sm, Am2, nm2, cm2⟩ ⟨s6, A6, n6, c6⟩ y6 h3 h6 hy6).mono ?_
              rintro e u2 ⟨An', nx', cn', Af', cf', ⟨s7, A7, n7, c7⟩, rfl, hnx', hT, p1⟩
              have pU := hV.trans p1
              have kR := kB3.pu pU
              have x0 := kR.cell 0
              have fx0 := kR.frozen 0
              have x1 := kR.cell 1
              have fx1 := kR.frozen 1
              have x2 := kR.cell 2
              have fx2 := kR.frozen 2
              have x3 := kR.cell 3
              have fx3 := kR.frozen 3
              obtain ⟨kR2, eR⟩ := over_T kR (.slice An' nx' cn') (.slice Af' nx' cf') (.int .i64 s7) (.slice A7 n7 c7)
              have hT2 := hT.frT eR (typed3_blk kR (by decide) (by decide) (by decide))
              have kA2 := (kA3.pu pU).fr eR (fun h => hab h)
              have hz2 := (hz3.pu pU).frT eR (fun j hj => by
                  have e' : j = b6 := hj
                  omega) (typed_blk1 kR (by decide))
              have hP2 := (pY.trans pU).step eR (fun j hj => by
                  have e' : j = b6 := hj
                  omega)
              have hs2 := Nat.le_trans (Nat.le_trans hszY pU.size) eR.size
              have HF := Lib.hid (And.intro kR2 (And.intro hT2 (And.intro kA2 (And.intro hz2 (And.intro hP2 hs2)))))
              clear kR2 hT2 kA2 hz2 hP2 hs2 eR kR hT h3 h6
              unfold tval
              go_wp2
              go_roundw
              case rel => exact ⟨i + 1, by omega, by go_num, ⟨HF.out.2.2.2.2.1, ⟨g9, A9, n9, c9, m9, An', nx', cn', Af', cf', s7, A7, n7, c7, HF.out.2.2.1, HF.out.1, HF.out.2.2.2.1, HF.out.2.1, by omega⟩, HF.out.2.2.2.2.2, HA.out.1⟩⟩
              case measure => simp [intOf]; omega
      · obtain rfl : i = ps.length := by omega
        have hyes := Lib.hid (okM_all (rest := rest) (ps := ps) (by omega) (by unfold inR; simp; omega) (fun p hp => hall p (by simpa using hp)))
        have hz2 : TMX wr Z.heap.size (.agg #[.bool g1, .slice A1 n1 c1, .pointer m1]) rest (sumM ps) := by simpa using hz1
        have hl12 : ps.length ≤ 12 := by omega
        clear hz1 hall
        go_wp2_with fail
        have pd : Pu wr wr.drew := (Pu.refl wr).drew
        refine wp_region_X 3 (fun t => t.cell? ⟨b5, 0, none⟩ = some (.bool g1) ∧ t.cell? ⟨b5, 1, none⟩ = some (.slice A1 n1 c1) ∧ t.cell? ⟨b5, 2, none⟩ = some (.pointer m1) ∧ t.cell? ⟨b6, 0, none⟩ = some (.slice An nx cn) ∧ t.cell? ⟨b6, 1, none⟩ = some (.slice Af nx cf) ∧ t.cell? ⟨b6, 2, none⟩ = some (.int .i64 s1) ∧ t.cell? ⟨b6, 3, none⟩ = some (.slice A3 n3 c3)) (by kernel_rfl) ⟨(kA.pu pd).cell 0, (kA.pu pd).cell 1, (kA.pu pd).cell 2, (kB.pu pd).cell 0, (kB.pu pd).cell 1, (kB.pu pd).cell 2, (kB.pu pd).cell 3⟩ ?_
        generalize wr.drew = V at pd ⊢
        refine wpX_take 0 (v := ?_) (by kernel_rfl) rfl (by kernel_rfl) (fun _ _ _ h => h) (Or.inl ⟨by rfl, ?_⟩) ?_
        rotate_left
        · (intro t hSw; (try dsimp only at hSw); go_simp; try with_reducible rfl)
        simp only [Act.put, List.setIfInBounds_toArray, List.set_cons_zero, List.set_cons_succ]
        refine wpX_take 1 (v := ?_) (by kernel_rfl) rfl (by kernel_rfl) (fun _ _ _ h => h) (Or.inl ⟨by rfl, ?_⟩) ?_
        rotate_left
        · (intro t hSw; (try dsimp only at hSw); go_simp; try with_reducible rfl)
        simp only [Act.put, List.setIfInBounds_toArray, List.set_cons_zero, List.set_cons_succ]
        have k2V := k2.pu (pZ1.trans pd)
        have k3V := k3.pu (pZ1.trans pd)
        have u0 := k2V.cell 0
        have u1 := k2V.cell 1
        have u2 := k2V.cell 2
        have fu0 := k2V.frozen 0
        have fu1 := k2V.frozen 1
        have fu2 := k2V.frozen 2
        have hs3 := Hsz.out
        obtain ⟨k2a, e2⟩ := over_3 k2V (.bool g1) (.slice A1 n1 c1) (.pointer m1)
        have kA1 := (kA.pu pd).fr e2 (by omega)
        have kB1 := (kB.pu pd).fr e2 (by omega)
        have k3a := k3V.fr e2 (by omega)
        have hlo1 : ∀ j, j = w.heap.size + 1 → j < Z.heap.size := fun j hj => by have := pZ0.size; omega
        have hlo2 : ∀ j, j = w.heap.size + 1 + 1 → j < Z.heap.size := fun j hj => by have := pZ0.size; omega
        clear hs3
        have HF := Lib.hid (And.intro k2a (And.intro e2 (And.intro kA1 (And.intro kB1 k3a))))
        clear k2a e2 kA1 kB1
        refine wpX_one 2 (by kernel_rfl) rfl (by decide) (fun K hK => ?_)
        go_simp
        refine hK.out _ _ ⟨HF.out.2.2.1.cell 0, HF.out.2.2.1.cell 1, HF.out.2.2.1.cell 2, HF.out.2.2.2.1.cell 0, HF.out.2.2.2.1.cell 1, HF.out.2.2.2.1.cell 2, HF.out.2.2.2.1.cell 3⟩ ?_
        clear hK K
        try simp only [Act.put, List.setIfInBounds_toArray, List.set_cons_zero, List.set_cons_succ]
        have t0 := k3a.cell 0
        have t1 := k3a.cell 1
        have t2 := k3a.cell 2
        have t3 := k3a.cell 3
        have ft0 := k3a.frozen 0
        have ft1 := k3a.frozen 1
        have ft2 := k3a.frozen 2
        have ft3 := k3a.frozen 3
        have hb23 : ¬ (w.heap.size + 1 = w.heap.size + 1 + 1) := by omega
        obtain ⟨k3b, e3⟩ := over_T k3a (.slice An nx cn) (.slice Af nx cf) (.int .i64 s1) (.slice A3 n3 c3)
        have k2b := HF.out.1.fr e3 hb23
        have hzV := ((hz2.pu pd).frT HF.out.2.1 (fun g hg => hlo1 g hg) (typed_blk1 k2V (by decide))).frT e3 (fun g hg => hlo2 g hg) (typed_blk1 k3a (by decide))
        have hxV := ((hx1.pu pd).frT HF.out.2.1 (typed3_blk k2V (by decide) (by decide) (by decide))).frT e3 (typed3_blk k3a (by decide) (by decide) (by decide))
        have pwV := ((pW.trans (pZ1.trans pd)).step HF.out.2.1 (fun j hj => by
            have e' : j = w.heap.size + 1 := hj
            omega)).step e3 (fun j hj => by
            have e' : j = w.heap.size + 1 + 1 := hj
            omega)
        have r0 := k2b.cell 0
        have r1 := k2b.cell 1
        have r2 := k2b.cell 2
        have q0 := k3b.cell 0
        have q1 := k3b.cell 1
        have q2 := k3b.cell 2
        have q3 := k3b.cell 3
        have HG := Lib.hid (And.intro hzV (And.intro hxV pwV))
        clear k3a k3b e3 k2b hzV hxV pwV hb23 hlo1 hlo2
        refine wpX_tail2 rfl (by kernel_rfl) ?_
        go_wp2_with fail
        exact bodyPost_ret (v := .tuple #[.agg #[.bool g1, .slice A1 n1 c1, .pointer m1], .agg #[.slice An nx cn, .slice Af nx cf, .int .i64 s1, .slice A3 n3 c3], .bool true]) (by simp [results, Tryz.results16, go_sem, r0, r1, r2, q0, q1, q2, q3]) rfl ⟨_, true, An, nx, cn, Af, cf, ⟨s1, A3, n3, c3⟩, _, rfl, hyes.out.symm, HG.out.1.lo_ hlo0, (fun _ => rfl), by omega, HG.out.2.1.le (by omega), HG.out.2.2⟩
  have Key := Lib.hid key
  clear key HK1
  refine wp_region_Xn 11 (fun t => t.cell? ⟨w.heap.size, 1, none⟩ = some (.int .i64 rest)) (by kernel_rfl) ((Pu.refl W).drew.cellv d1) (fun O R hO hR => ?_)
  generalize hV0 : W.drew = V0
  have pV0 : Pu W V0 := by rw [← hV0]; exact (Pu.refl W).drew
  clear hV0
  have K311 : ∀ (x0 x7 x8 x11 x15 x17 x18 x19 x20 x21 x22 x23 x24 x25 x26 x27 x28 x29 x30 x31 x32 x33 x34 x35 x36 x37 x38 x39 x40 x41 x42 x43 x44 x45 x46 x47 x48 x49 x50 x51 x52 x53 x54 x55 x56 x57 x58 x59 x60 x61 x62 x63 x64 x65 x66 x67 x68 x69 x70 x71 x72 x73 x74 x75 x76 x77 x78 x79 x80 x81 x82 : Value) (g : Bool) (A : Option Addr) (n c : Nat) (s : Int) (A2 : Option Addr) (n2 c2 : Nat) (b5 : Nat) (b6 : Nat) (V : World) (pV : Pu W V) (h12 : ZR V (.agg #[.bool g, .slice A n c]) rest) (h16 : NZ_ V 9223372036854775808 (.agg #[.int .i64 s, .slice A2 n2 c2])) (hb5 : W.heap.size ≤ b5) (kA : Blk V b5 33 #[.bool false, .slice none 0 0, .pointer none]) (hb6 : W.heap.size ≤ b6) (kB : Blk V b6 56 #[.slice none 0 0, .slice none 0 0, .int .i64 0, .slice none 0 0]) (hab : b5 ≠ b6), wpX Tryz.prog .any O R (fun t => t.cell? ⟨w.heap.size, 1, none⟩ = some (.int .i64 rest)) 11 2 #[true, true, true, true, true, true, true, true, true, true, false, false] { tmps := #[x0, ptr w.heap.size, ptr (w.heap.size + 1), ptr (w.heap.size + 1 + 1), .bool false, ptr b5, ptr b6, x7, x8, .pointer (some ⟨w.heap.size, 1, none⟩), .int .i64 rest, x11, .agg #[.bool g, .slice A n c, .pointer none], .pointer (some ⟨w.heap.size, 1, none⟩), .int .i64 rest, x15, .agg #[.slice none 0 0, .slice none 0 0, .int .i64 s, .slice A2 n2 c2], x17, x18, x19, x20, x21, x22, x23, x24, x25, x26, x27, x28, x29, x30, x31, x32, x33, x34, x35, x36, x37, x38, x39, x40, x41, x42, x43, x44, x45, x46, x47, x48, x49, x50, x51, x52, x53, x54, x55, x56, x57, x58, x59, x60, x61, x62, x63, x64, x65, x66, x67, x68, x69, x70, x71, x72, x73, x74, x75, x76, x77, x78, x79, x80, x81, x82], defers := [] } V := by
    intro x0 x7 x8 x11 x15 x17 x18 x19 x20 x21 x22 x23 x24 x25 x26 x27 x28 x29 x30 x31 x32 x33 x34 x35 x36 x37 x38 x39 x40 x41 x42 x43 x44 x45 x46 x47 x48 x49 x50 x51 x52 x53 x54 x55 x56 x57 x58 x59 x60 x61 x62 x63 x64 x65 x66 x67 x68 x69 x70 x71 x72 x73 x74 x75 x76 x77 x78 x79 x80 x81 x82 g A n c s A2 n2 c2 b5 b6 V pV h12 h16 hb5 kA hb6 kB hab
    obtain rfl := hO.out
    obtain rfl := hR.out
    have ya0 := kA.cell 0
    have ya1 := kA.cell 1
    have ya2 := kA.cell 2
    have fa0 := kA.frozen 0
    have fa1 := kA.frozen 1
    have fa2 := kA.frozen 2
    obtain ⟨kA1, e3⟩ := over_3 kA (.bool g) (.slice A n c) (.pointer none)
    have pV1 := pV.step e3 (fun j hj => by
        have e' : j = b5 := hj
        omega)
    have kB1 := kB.fr e3 (fun h => hab h.symm)
    have h16a := h16.frT e3 (typed_blk kA (by decide))
    have yb0 := kB1.cell 0
    have yb1 := kB1.cell 1
    have yb2 := kB1.cell 2
    have yb3 := kB1.cell 3
    have fb0 := kB1.frozen 0
    have fb1 := kB1.frozen 1
    have fb2 := kB1.frozen 2
    have fb3 := kB1.frozen 3
    have h12a := h12.frT e3 (typed_blk kA (by decide))
    have hab6 : ¬ (b5 = b6) := hab
    obtain ⟨kB2, e4⟩ := over_T kB1 (.slice none 0 0) (.slice none 0 0) (.int .i64 s) (.slice A2 n2 c2)
    have pV2 := pV1.step e4 (fun j hj => by
        have e' : j = b6 := hj
        omega)
    have kA2 := kA1.fr e4 hab6
    have h12b := h12a.frT e4 (typed_blk kB1 (by decide))
    have h16b := h16a.frT e4 (typed_blk kB1 (by decide))
    have HF := Lib.hid (And.intro pV2 (And.intro kA2 (And.intro kB2 (And.intro h12b h16b))))
    clear e3 kA1 kB1 h16a h12a e4 pV2 kA2 kB2 h12b h16b
    refine wpX_one 10 (by kernel_rfl) rfl (by decide) (fun K hK => ?_)
    go_simp
    refine hK.out _ _ (pV1.cellv d1) ?_
    clear hK K
    try simp only [Act.put, List.setIfInBounds_toArray, List.set_cons_zero, List.set_cons_succ]
    refine wpX_tail1 rfl (by kernel_rfl) ?_
    go_wp2_with fail
    exact Key.out _ _ _ _ _ _ _ _ _ _ _ _ _ _ _ _ _ _ _ _ _ _ _ _ _ _ _ _ _ _ _ _ _ _ _ _ _ _ _ _ _ _ _ _ _ _ _ _ _ _ _ _ _ _ _ _ _ _ _ _ _ _ _ _ _ _ _ _ _ _ _ b5 b6 g A n c s A2 n2 c2 _ hb5 hb6 hab HF.out.1 HF.out.2.1 HF.out.2.2.1 HF.out.2.2.2.1 HF.out.2.2.2.2
  have K310 : ∀ (x0 x6 x7 x8 x11 x15 x17 x18 x19 x20 x21 x22 x23 x24 x25 x26 x27 x28 x29 x30 x31 x32 x33 x34 x35 x36 x37 x38 x39 x40 x41 x42 x43 x44 x45 x46 x47 x48 x49 x50 x51 x52 x53 x54 x55 x56 x57 x58 x59 x60 x61 x62 x63 x64 x65 x66 x67 x68 x69 x70 x71 x72 x73 x74 x75 x76 x77 x78 x79 x80 x81 x82 : Value) (g : Bool) (A : Option Addr) (n c : Nat) (s : Int) (A2 : Option Addr) (n2 c2 : Nat) (b5 : Nat) (V : World) (pV : Pu W V) (h12 : ZR V (.agg #[.bool g, .slice A n c]) rest) (h16 : NZ_ V 9223372036854775808 (.agg #[.int .i64 s, .slice A2 n2 c2])) (hb5 : W.heap.size ≤ b5) (kA : Blk V b5 33 #[.bool false, .slice none 0 0, .pointer none]), wpX Tryz.prog .any O R (fun t => t.cell? ⟨w.heap.size, 1, none⟩ = some (.int .i64 rest)) 11 3 #[true, true, true, true, true, true, true, true, true, false, false, false] { tmps := #[x0, ptr w.heap.size, ptr (w.heap.size + 1), ptr (w.heap.size + 1 + 1), .bool false, ptr b5, x6, x7, x8, .pointer (some ⟨w.heap.size, 1, none⟩), .int .i64 rest, x11, .agg #[.bool g, .slice A n c, .pointer none], .pointer (some ⟨w.heap.size, 1, none⟩), .int .i64 rest, x15, .agg #[.slice none 0 0, .slice none 0 0, .int .i64 s, .slice A2 n2 c2], x17, x18, x19, x20, x21, x22, x23, x24, x25, x26, x27, x28, x29, x30, x31, x32, x33, x34, x35, x36, x37, x38, x39, x40, x41, x42, x43, x44, x45, x46, x47, x48, x49, x50, x51, x52, x53, x54, x55, x56, x57, x58, x59, x60, x61, x62, x63, x64, x65, x66, x67, x68, x69, x70, x71, x72, x73, x74, x75, x76, x77, x78, x79, x80, x81, x82], defers := [] } V := by
    intro x0 x6 x7 x8 x11 x15 x17 x18 x19 x20 x21 x22 x23 x24 x25 x26 x27 x28 x29 x30 x31 x32 x33 x34 x35 x36 x37 x38 x39 x40 x41 x42 x43 x44 x45 x46 x47 x48 x49 x50 x51 x52 x53 x54 x55 x56 x57 x58 x59 x60 x61 x62 x63 x64 x65 x66 x67 x68 x69 x70 x71 x72 x73 x74 x75 x76 x77 x78 x79 x80 x81 x82 g A n c s A2 n2 c2 b5 V pV h12 h16 hb5 kA
    obtain rfl := hO.out
    obtain rfl := hR.out
    refine wpX_any (rs := [9]) (by kernel_rfl) (by simp) ?_
    refine AllX.cons rfl (by decide) (fun K hK => ?_) ?_
    · go_simp
      refine hK.out _ _ ((pV.trans ((Pu.refl V).alloc _)).cellv d1) ?_
      clear hK K
      try simp only [Act.put, List.setIfInBounds_toArray, List.set_cons_zero, List.set_cons_succ]
      refine wpX_at #[true, true, true, true, true, true, true, true, true, true, false, false] (by kernel_rfl) ?_
      exact K311 _ _ _ _ _ _ _ _ _ _ _ _ _ _ _ _ _ _ _ _ _ _ _ _ _ _ _ _ _ _ _ _ _ _ _ _ _ _ _ _ _ _ _ _ _ _ _ _ _ _ _ _ _ _ _ _ _ _ _ _ _ _ _ _ _ _ _ _ _ _ _ g A n c s A2 n2 c2 b5 V.heap.size _ (pV.trans ((Pu.refl V).alloc _)) (h12.pu ((Pu.refl V).alloc _)) (h16.pu ((Pu.refl V).alloc _)) hb5 (kA.pu ((Pu.refl V).alloc _)) pV.size (Blk.new V _ _) (Nat.ne_of_lt kA.lt)
    exact AllX.nil
  have K301 : ∀ (x0 x5 x7 x8 x11 x15 x17 x18 x19 x20 x21 x22 x23 x24 x25 x26 x27 x28 x29 x30 x31 x32 x33 x34 x35 x36 x37 x38 x39 x40 x41 x42 x43 x44 x45 x46 x47 x48 x49 x50 x51 x52 x53 x54 x55 x56 x57 x58 x59 x60 x61 x62 x63 x64 x65 x66 x67 x68 x69 x70 x71 x72 x73 x74 x75 x76 x77 x78 x79 x80 x81 x82 : Value) (g : Bool) (A : Option Addr) (n c : Nat) (s : Int) (A2 : Option Addr) (n2 c2 : Nat) (b6 : Nat) (V : World) (pV : Pu W V) (h12 : ZR V (.agg #[.bool g, .slice A n c]) rest) (h16 : NZ_ V 9223372036854775808 (.agg #[.int .i64 s, .slice A2 n2 c2])) (hb6 : W.heap.size ≤ b6) (kB : Blk V b6 56 #[.slice none 0 0, .slice none 0 0, .int .i64 0, .slice none 0 0]), wpX Tryz.prog .any O R (fun t => t.cell? ⟨w.heap.size, 1, none⟩ = some (.int .i64 rest)) 11 3 #[true, true, true, true, true, true, true, true, false, true, false, false] { tmps := #[x0, ptr w.heap.size, ptr (w.heap.size + 1), ptr (w.heap.size + 1 + 1), .bool false, x5, ptr b6, x7, x8, .pointer (some ⟨w.heap.size, 1, none⟩), .int .i64 rest, x11, .agg #[.bool g, .slice A n c, .pointer none], .pointer (some ⟨w.heap.size, 1, none⟩), .int .i64 rest, x15, .agg #[.slice none 0 0, .slice none 0 0, .int .i64 s, .slice A2 n2 c2], x17, x18, x19, x20, x21, x22, x23, x24, x25, x26, x27, x28, x29, x30, x31, x32, x33, x34, x35, x36, x37, x38, x39, x40, x41, x42, x43, x44, x45, x46, x47, x48, x49, x50, x51, x52, x53, x54, x55, x56, x57, x58, x59, x60, x61, x62, x63, x64, x65, x66, x67, x68, x69, x70, x71, x72, x73, x74, x75, x76, x77, x78, x79, x80, x81, x82], defers := [] } V := by
    intro x0 x5 x7 x8 x11 x15 x17 x18 x19 x20 x21 x22 x23 x24 x25 x26 x27 x28 x29 x30 x31 x32 x33 x34 x35 x36 x37 x38 x39 x40 x41 x42 x43 x44 x45 x46 x47 x48 x49 x50 x51 x52 x53 x54 x55 x56 x57 x58 x59 x60 x61 x62 x63 x64 x65 x66 x67 x68 x69 x70 x71 x72 x73 x74 x75 x76 x77 x78 x79 x80 x81 x82 g A n c s A2 n2 c2 b6 V pV h12 h16 hb6 kB
    obtain rfl := hO.out
    obtain rfl := hR.out
    refine wpX_any (rs := [8]) (by kernel_rfl) (by simp) ?_
    refine AllX.cons rfl (by decide) (fun K hK => ?_) ?_
    · go_simp
      refine hK.out _ _ ((pV.trans ((Pu.refl V).alloc _)).cellv d1) ?_
      clear hK K
      try simp only [Act.put, List.setIfInBounds_toArray, List.set_cons_zero, List.set_cons_succ]
      refine wpX_at #[true, true, true, true, true, true, true, true, true, true, false, false] (by kernel_rfl) ?_
      exact K311 _ _ _ _ _ _ _ _ _ _ _ _ _ _ _ _ _ _ _ _ _ _ _ _ _ _ _ _ _ _ _ _ _ _ _ _ _ _ _ _ _ _ _ _ _ _ _ _ _ _ _ _ _ _ _ _ _ _ _ _ _ _ _ _ _ _ _ _ _ _ _ g A n c s A2 n2 c2 V.heap.size b6 _ (pV.trans ((Pu.refl V).alloc _)) (h12.pu ((Pu.refl V).alloc _)) (h16.pu ((Pu.refl V).alloc _)) pV.size (Blk.new V _ _) hb6 (kB.pu ((Pu.refl V).alloc _)) (Nat.ne_of_gt kB.lt)
    exact AllX.nil
  have K300 : ∀ (x0 x5 x6 x7 x8 x11 x15 x17 x18 x19 x20 x21 x22 x23 x24 x25 x26 x27 x28 x29 x30 x31 x32 x33 x34 x35 x36 x37 x38 x39 x40 x41 x42 x43 x44 x45 x46 x47 x48 x49 x50 x51 x52 x53 x54 x55 x56 x57 x58 x59 x60 x61 x62 x63 x64 x65 x66 x67 x68 x69 x70 x71 x72 x73 x74 x75 x76 x77 x78 x79 x80 x81 x82 : Value) (g : Bool) (A : Option Addr) (n c : Nat) (s : Int) (A2 : Option Addr) (n2 c2 : Nat) (V : World) (pV : Pu W V) (h12 : ZR V (.agg #[.bool g, .slice A n c]) rest) (h16 : NZ_ V 9223372036854775808 (.agg #[.int .i64 s, .slice A2 n2 c2])), wpX Tryz.prog .any O R (fun t => t.cell? ⟨w.heap.size, 1, none⟩ = some (.int .i64 rest)) 11 4 #[true, true, true, true, true, true, true, true, false, false, false, false] { tmps := #[x0, ptr w.heap.size, ptr (w.heap.size + 1), ptr (w.heap.size + 1 + 1), .bool false, x5, x6, x7, x8, .pointer (some ⟨w.heap.size, 1, none⟩), .int .i64 rest, x11, .agg #[.bool g, .slice A n c, .pointer none], .pointer (some ⟨w.heap.size, 1, none⟩), .int .i64 rest, x15, .agg #[.slice none 0 0, .slice none 0 0, .int .i64 s, .slice A2 n2 c2], x17, x18, x19, x20, x21, x22, x23, x24, x25, x26, x27, x28, x29, x30, x31, x32, x33, x34, x35, x36, x37, x38, x39, x40, x41, x42, x43, x44, x45, x46, x47, x48, x49, x50, x51, x52, x53, x54, x55, x56, x57, x58, x59, x60, x61, x62, x63, x64, x65, x66, x67, x68, x69, x70, x71, x72, x73, x74, x75, x76, x77, x78, x79, x80, x81, x82], defers := [] } V := by
    intro x0 x5 x6 x7 x8 x11 x15 x17 x18 x19 x20 x21 x22 x23 x24 x25 x26 x27 x28 x29 x30 x31 x32 x33 x34 x35 x36 x37 x38 x39 x40 x41 x42 x43 x44 x45 x46 x47 x48 x49 x50 x51 x52 x53 x54 x55 x56 x57 x58 x59 x60 x61 x62 x63 x64 x65 x66 x67 x68 x69 x70 x71 x72 x73 x74 x75 x76 x77 x78 x79 x80 x81 x82 g A n c s A2 n2 c2 V pV h12 h16
    obtain rfl := hO.out
    obtain rfl := hR.out
    refine wpX_any (rs := [8, 9]) (by kernel_rfl) (by simp) ?_
    refine AllX.cons rfl (by decide) (fun K hK => ?_) ?_
    · go_simp
      refine hK.out _ _ ((pV.trans ((Pu.refl V).alloc _)).cellv d1) ?_
      clear hK K
      try simp only [Act.put, List.setIfInBounds_toArray, List.set_cons_zero, List.set_cons_succ]
      refine wpX_at #[true, true, true, true, true, true, true, true, true, false, false, false] (by kernel_rfl) ?_
      exact K310 _ _ _ _ _ _ _ _ _ _ _ _ _ _ _ _ _ _ _ _ _ _ _ _ _ _ _ _ _ _ _ _ _ _ _ _ _ _ _ _ _ _ _ _ _ _ _ _ _ _ _ _ _ _ _ _ _ _ _ _ _ _ _ _ _ _ _ _ _ _ _ _ g A n c s A2 n2 c2 V.heap.size _ (pV.trans ((Pu.refl V).alloc _)) (h12.pu ((Pu.refl V).alloc _)) (h16.pu ((Pu.refl V).alloc _)) pV.size (Blk.new V _ _)
    refine AllX.cons rfl (by decide) (fun K hK => ?_) ?_
    · go_simp
      refine hK.out _ _ ((pV.trans ((Pu.refl V).alloc _)).cellv d1) ?_
      clear hK K
      try simp only [Act.put, List.setIfInBounds_toArray, List.set_cons_zero, List.set_cons_succ]
      refine wpX_at #[true, true, true, true, true, true, true, true, false, true, false, false] (by kernel_rfl) ?_
      exact K301 _ _ _ _ _ _ _ _ _ _ _ _ _ _ _ _ _ _ _ _ _ _ _ _ _ _ _ _ _ _ _ _ _ _ _ _ _ _ _ _ _ _ _ _ _ _ _ _ _ _ _ _ _ _ _ _ _ _ _ _ _ _ _ _ _ _ _ _ _ _ _ _ g A n c s A2 n2 c2 V.heap.size _ (pV.trans ((Pu.refl V).alloc _)) (h12.pu ((Pu.refl V).alloc _)) (h16.pu ((Pu.refl V).alloc _)) pV.size (Blk.new V _ _)
    exact AllX.nil
  have K211 : ∀ (x0 x7 x8 x11 x15 x16 x17 x18 x19 x20 x21 x22 x23 x24 x25 x26 x27 x28 x29 x30 x31 x32 x33 x34 x35 x36 x37 x38 x39 x40 x41 x42 x43 x44 x45 x46 x47 x48 x49 x50 x51 x52 x53 x54 x55 x56 x57 x58 x59 x60 x61 x62 x63 x64 x65 x66 x67 x68 x69 x70 x71 x72 x73 x74 x75 x76 x77 x78 x79 x80 x81 x82 : Value) (g : Bool) (A : Option Addr) (n c : Nat) (b5 : Nat) (b6 : Nat) (V : World) (pV : Pu W V) (h12 : ZR V (.agg #[.bool g, .slice A n c]) rest) (hb5 : W.heap.size ≤ b5) (kA : Blk V b5 33 #[.bool false, .slice none 0 0, .pointer none]) (hb6 : W.heap.size ≤ b6) (kB : Blk V b6 56 #[.slice none 0 0, .slice none 0 0, .int .i64 0, .slice none 0 0]) (hab : b5 ≠ b6), wpX Tryz.prog .any O R (fun t => t.cell? ⟨w.heap.size, 1, none⟩ = some (.int .i64 rest)) 11 4 #[true, true, true, true, true, true, false, false, true, true, false, false] { tmps := #[x0, ptr w.heap.size, ptr (w.heap.size + 1), ptr (w.heap.size + 1 + 1), .bool false, ptr b5, ptr b6, x7, x8, .pointer (some ⟨w.heap.size, 1, none⟩), .int .i64 rest, x11, .agg #[.bool g, .slice A n c, .pointer none], .pointer (some ⟨w.heap.size, 1, none⟩), .int .i64 rest, x15, x16, x17, x18, x19, x20, x21, x22, x23, x24, x25, x26, x27, x28, x29, x30, x31, x32, x33, x34, x35, x36, x37, x38, x39, x40, x41, x42, x43, x44, x45, x46, x47, x48, x49, x50, x51, x52, x53, x54, x55, x56, x57, x58, x59, x60, x61, x62, x63, x64, x65, x66, x67, x68, x69, x70, x71, x72, x73, x74, x75, x76, x77, x78, x79, x80, x81, x82], defers := [] } V := by
    intro x0 x7 x8 x11 x15 x16 x17 x18 x19 x20 x21 x22 x23 x24 x25 x26 x27 x28 x29 x30 x31 x32 x33 x34 x35 x36 x37 x38 x39 x40 x41 x42 x43 x44 x45 x46 x47 x48 x49 x50 x51 x52 x53 x54 x55 x56 x57 x58 x59 x60 x61 x62 x63 x64 x65 x66 x67 x68 x69 x70 x71 x72 x73 x74 x75 x76 x77 x78 x79 x80 x81 x82 g A n c b5 b6 V pV h12 hb5 kA hb6 kB hab
    obtain rfl := hO.out
    obtain rfl := hR.out
    refine wpX_any (rs := [6]) (by kernel_rfl) (by simp) ?_
    refine AllX.cons rfl (by decide) (fun K hK => ?_) ?_
    · go_simp
      go_at_call 44
      refine (rfrom_int rest V hr1 hr2).mono ?_
      rintro e u1 ⟨v15, y, rfl, h15, hy, p1⟩
      obtain ⟨s, A2, n2, c2, rfl⟩ := h15.raw
      have h16 : NZ_ u1 9223372036854775808 (.agg #[.int .i64 s, .slice A2 n2 c2]) := ⟨y, h15, by omega⟩
      go_wp2_with fail
      refine hK.out _ _ ((pV.trans p1).cellv d1) ?_
      clear hK K
      try simp only [Act.put, List.setIfInBounds_toArray, List.set_cons_zero, List.set_cons_succ]
      refine wpX_take 7 (v := ?_) (by kernel_rfl) rfl (by kernel_rfl) (fun _ _ _ h => h) (Or.inl ⟨by rfl, ?_⟩) ?_
      rotate_left
      · (intro t hSw; (try dsimp only at hSw); go_simp; try with_reducible rfl)
      simp only [Act.put, List.setIfInBounds_toArray, List.set_cons_zero, List.set_cons_succ]
      refine wpX_at #[true, true, true, true, true, true, true, true, true, true, false, false] (by kernel_rfl) ?_
      exact K311 _ _ _ _ _ _ _ _ _ _ _ _ _ _ _ _ _ _ _ _ _ _ _ _ _ _ _ _ _ _ _ _ _ _ _ _ _ _ _ _ _ _ _ _ _ _ _ _ _ _ _ _ _ _ _ _ _ _ _ _ _ _ _ _ _ _ _ _ _ _ _ g A n c s A2 n2 c2 b5 b6 _ (pV.trans p1) (h12.pu p1) h16 hb5 (kA.pu p1) hb6 (kB.pu p1) hab
    exact AllX.nil
  have K210 : ∀ (x0 x6 x7 x8 x11 x15 x16 x17 x18 x19 x20 x21 x22 x23 x24 x25 x26 x27 x28 x29 x30 x31 x32 x33 x34 x35 x36 x37 x38 x39 x40 x41 x42 x43 x44 x45 x46 x47 x48 x49 x50 x51 x52 x53 x54 x55 x56 x57 x58 x59 x60 x61 x62 x63 x64 x65 x66 x67 x68 x69 x70 x71 x72 x73 x74 x75 x76 x77 x78 x79 x80 x81 x82 : Value) (g : Bool) (A : Option Addr) (n c : Nat) (b5 : Nat) (V : World) (pV : Pu W V) (h12 : ZR V (.agg #[.bool g, .slice A n c]) rest) (hb5 : W.heap.size ≤ b5) (kA : Blk V b5 33 #[.bool false, .slice none 0 0, .pointer none]), wpX Tryz.prog .any O R (fun t => t.cell? ⟨w.heap.size, 1, none⟩ = some (.int .i64 rest)) 11 5 #[true, true, true, true, true, true, false, false, true, false, false, false] { tmps := #[x0, ptr w.heap.size, ptr (w.heap.size + 1), ptr (w.heap.size + 1 + 1), .bool false, ptr b5, x6, x7, x8, .pointer (some ⟨w.heap.size, 1, none⟩), .int .i64 rest, x11, .agg #[.bool g, .slice A n c, .pointer none], .pointer (some ⟨w.heap.size, 1, none⟩), .int .i64 rest, x15, x16, x17, x18, x19, x20, x21, x22, x23, x24, x25, x26, x27, x28, x29, x30, x31, x32, x33, x34, x35, x36, x37, x38, x39, x40, x41, x42, x43, x44, x45, x46, x47, x48, x49, x50, x51, x52, x53, x54, x55, x56, x57, x58, x59, x60, x61, x62, x63, x64, x65, x66, x67, x68, x69, x70, x71, x72, x73, x74, x75, x76, x77, x78, x79, x80, x81, x82], defers := [] } V := by
    intro x0 x6 x7 x8 x11 x15 x16 x17 x18 x19 x20 x21 x22 x23 x24 x25 x26 x27 x28 x29 x30 x31 x32 x33 x34 x35 x36 x37 x38 x39 x40 x41 x42 x43 x44 x45 x46 x47 x48 x49 x50 x51 x52 x53 x54 x55 x56 x57 x58 x59 x60 x61 x62 x63 x64 x65 x66 x67 x68 x69 x70 x71 x72 x73 x74 x75 x76 x77 x78 x79 x80 x81 x82 g A n c b5 V pV h12 hb5 kA
    obtain rfl := hO.out
    obtain rfl := hR.out
    refine wpX_any (rs := [6, 9]) (by kernel_rfl) (by simp) ?_
    refine AllX.cons rfl (by decide) (fun K hK => ?_) ?_
    · go_simp
      go_at_call 44
      refine (rfrom_int rest V hr1 hr2).mono ?_
      rintro e u1 ⟨v15, y, rfl, h15, hy, p1⟩
      obtain ⟨s, A2, n2, c2, rfl⟩ := h15.raw
      have h16 : NZ_ u1 9223372036854775808 (.agg #[.int .i64 s, .slice A2 n2 c2]) := ⟨y, h15, by omega⟩
      go_wp2_with fail
      refine hK.out _ _ ((pV.trans p1).cellv d1) ?_
      clear hK K
      try simp only [Act.put, List.setIfInBounds_toArray, List.set_cons_zero, List.set_cons_succ]
      refine wpX_take 7 (v := ?_) (by kernel_rfl) rfl (by kernel_rfl) (fun _ _ _ h => h) (Or.inl ⟨by rfl, ?_⟩) ?_
      rotate_left
      · (intro t hSw; (try dsimp only at hSw); go_simp; try with_reducible rfl)
      simp only [Act.put, List.setIfInBounds_toArray, List.set_cons_zero, List.set_cons_succ]
      refine wpX_at #[true, true, true, true, true, true, true, true, true, false, false, false] (by kernel_rfl) ?_
      exact K310 _ _ _ _ _ _ _ _ _ _ _ _ _ _ _ _ _ _ _ _ _ _ _ _ _ _ _ _ _ _ _ _ _ _ _ _ _ _ _ _ _ _ _ _ _ _ _ _ _ _ _ _ _ _ _ _ _ _ _ _ _ _ _ _ _ _ _ _ _ _ _ _ g A n c s A2 n2 c2 b5 _ (pV.trans p1) (h12.pu p1) h16 hb5 (kA.pu p1)
    refine AllX.cons rfl (by decide) (fun K hK => ?_) ?_
    · go_simp
      refine hK.out _ _ ((pV.trans ((Pu.refl V).alloc _)).cellv d1) ?_
      clear hK K
      try simp only [Act.put, List.setIfInBounds_toArray, List.set_cons_zero, List.set_cons_succ]
      refine wpX_at #[true, true, true, true, true, true, false, false, true, true, false, false] (by kernel_rfl) ?_
      exact K211 _ _ _ _ _ _ _ _ _ _ _ _ _ _ _ _ _ _ _ _ _ _ _ _ _ _ _ _ _ _ _ _ _ _ _ _ _ _ _ _ _ _ _ _ _ _ _ _ _ _ _ _ _ _ _ _ _ _ _ _ _ _ _ _ _ _ _ _ _ _ _ _ g A n c b5 V.heap.size _ (pV.trans ((Pu.refl V).alloc _)) (h12.pu ((Pu.refl V).alloc _)) hb5 (kA.pu ((Pu.refl V).alloc _)) pV.size (Blk.new V _ _) (Nat.ne_of_lt kA.lt)
    exact AllX.nil
  have K201 : ∀ (x0 x5 x7 x8 x11 x15 x16 x17 x18 x19 x20 x21 x22 x23 x24 x25 x26 x27 x28 x29 x30 x31 x32 x33 x34 x35 x36 x37 x38 x39 x40 x41 x42 x43 x44 x45 x46 x47 x48 x49 x50 x51 x52 x53 x54 x55 x56 x57 x58 x59 x60 x61 x62 x63 x64 x65 x66 x67 x68 x69 x70 x71 x72 x73 x74 x75 x76 x77 x78 x79 x80 x81 x82 : Value) (g : Bool) (A : Option Addr) (n c : Nat) (b6 : Nat) (V : World) (pV : Pu W V) (h12 : ZR V (.agg #[.bool g, .slice A n c]) rest) (hb6 : W.heap.size ≤ b6) (kB : Blk V b6 56 #[.slice none 0 0, .slice none 0 0, .int .i64 0, .slice none 0 0]), wpX Tryz.prog .any O R (fun t => t.cell? ⟨w.heap.size, 1, none⟩ = some (.int .i64 rest)) 11 5 #[true, true, true, true, true, true, false, false, false, true, false, false] { tmps := #[x0, ptr w.heap.size, ptr (w.heap.size + 1), ptr (w.heap.size + 1 + 1), .bool false, x5, ptr b6, x7, x8, .pointer (some ⟨w.heap.size, 1, none⟩), .int .i64 rest, x11, .agg #[.bool g, .slice A n c, .pointer none], .pointer (some ⟨w.heap.size, 1, none⟩), .int .i64 rest, x15, x16, x17, x18, x19, x20, x21, x22, x23, x24, x25, x26, x27, x28, x29, x30, x31, x32, x33, x34, x35, x36, x37, x38, x39, x40, x41, x42, x43, x44, x45, x46, x47, x48, x49, x50, x51, x52, x53, x54, x55, x56, x57, x58, x59, x60, x61, x62, x63, x64, x65, x66, x67, x68, x69, x70, x71, x72, x73, x74, x75, x76, x77, x78, x79, x80, x81, x82], defers := [] } V := by
    intro x0 x5 x7 x8 x11 x15 x16 x17 x18 x19 x20 x21 x22 x23 x24 x25 x26 x27 x28 x29 x30 x31 x32 x33 x34 x35 x36 x37 x38 x39 x40 x41 x42 x43 x44 x45 x46 x47 x48 x49 x50 x51 x52 x53 x54 x55 x56 x57 x58 x59 x60 x61 x62 x63 x64 x65 x66 x67 x68 x69 x70 x71 x72 x73 x74 x75 x76 x77 x78 x79 x80 x81 x82 g A n c b6 V pV h12 hb6 kB
    obtain rfl := hO.out
    obtain rfl := hR.out
    refine wpX_any (rs := [6, 8]) (by kernel_rfl) (by simp) ?_
    refine AllX.cons rfl (by decide) (fun K hK => ?_) ?_
    · go_simp
      go_at_call 44
      refine (rfrom_int rest V hr1 hr2).mono ?_
      rintro e u1 ⟨v15, y, rfl, h15, hy, p1⟩
      obtain ⟨s, A2, n2, c2, rfl⟩ := h15.raw
      have h16 : NZ_ u1 9223372036854775808 (.agg #[.int .i64 s, .slice A2 n2 c2]) := ⟨y, h15, by omega⟩
      go_wp2_with fail
      refine hK.out _ _ ((pV.trans p1).cellv d1) ?_
      clear hK K
      try simp only [Act.put, List.setIfInBounds_toArray, List.set_cons_zero, List.set_cons_succ]
      refine wpX_take 7 (v := ?_) (by kernel_rfl) rfl (by kernel_rfl) (fun _ _ _ h => h) (Or.inl ⟨by rfl, ?_⟩) ?_
      rotate_left
      · (intro t hSw; (try dsimp only at hSw); go_simp; try with_reducible rfl)
      simp only [Act.put, List.setIfInBounds_toArray, List.set_cons_zero, List.set_cons_succ]
      refine wpX_at #[true, true, true, true, true, true, true, true, false, true, false, false] (by kernel_rfl) ?_
      exact K301 _ _ _ _ _ _ _ _ _ _ _ _ _ _ _ _ _ _ _ _ _ _ _ _ _ _ _ _ _ _ _ _ _ _ _ _ _ _ _ _ _ _ _ _ _ _ _ _ _ _ _ _ _ _ _ _ _ _ _ _ _ _ _ _ _ _ _ _ _ _ _ _ g A n c s A2 n2 c2 b6 _ (pV.trans p1) (h12.pu p1) h16 hb6 (kB.pu p1)
    refine AllX.cons rfl (by decide) (fun K hK => ?_) ?_
    · go_simp
      refine hK.out _ _ ((pV.trans ((Pu.refl V).alloc _)).cellv d1) ?_
      clear hK K
      try simp only [Act.put, List.setIfInBounds_toArray, List.set_cons_zero, List.set_cons_succ]
      refine wpX_at #[true, true, true, true, true, true, false, false, true, true, false, false] (by kernel_rfl) ?_
      exact K211 _ _ _ _ _ _ _ _ _ _ _ _ _ _ _ _ _ _ _ _ _ _ _ _ _ _ _ _ _ _ _ _ _ _ _ _ _ _ _ _ _ _ _ _ _ _ _ _ _ _ _ _ _ _ _ _ _ _ _ _ _ _ _ _ _ _ _ _ _ _ _ _ g A n c V.heap.size b6 _ (pV.trans ((Pu.refl V).alloc _)) (h12.pu ((Pu.refl V).alloc _)) pV.size (Blk.new V _ _) hb6 (kB.pu ((Pu.refl V).alloc _)) (Nat.ne_of_gt kB.lt)
    exact AllX.nil
  have K200 : ∀ (x0 x5 x6 x7 x8 x11 x15 x16 x17 x18 x19 x20 x21 x22 x23 x24 x25 x26 x27 x28 x29 x30 x31 x32 x33 x34 x35 x36 x37 x38 x39 x40 x41 x42 x43 x44 x45 x46 x47 x48 x49 x50 x51 x52 x53 x54 x55 x56 x57 x58 x59 x60 x61 x62 x63 x64 x65 x66 x67 x68 x69 x70 x71 x72 x73 x74 x75 x76 x77 x78 x79 x80 x81 x82 : Value) (g : Bool) (A : Option Addr) (n c : Nat) (V : World) (pV : Pu W V) (h12 : ZR V (.agg #[.bool g, .slice A n c]) rest), wpX Tryz.prog .any O R (fun t => t.cell? ⟨w.heap.size, 1, none⟩ = some (.int .i64 rest)) 11 6 #[true, true, true, true, true, true, false, false, false, false, false, false] { tmps := #[x0, ptr w.heap.size, ptr (w.heap.size + 1), ptr (w.heap.size + 1 + 1), .bool false, x5, x6, x7, x8, .pointer (some ⟨w.heap.size, 1, none⟩), .int .i64 rest, x11, .agg #[.bool g, .slice A n c, .pointer none], .pointer (some ⟨w.heap.size, 1, none⟩), .int .i64 rest, x15, x16, x17, x18, x19, x20, x21, x22, x23, x24, x25, x26, x27, x28, x29, x30, x31, x32, x33, x34, x35, x36, x37, x38, x39, x40, x41, x42, x43, x44, x45, x46, x47, x48, x49, x50, x51, x52, x53, x54, x55, x56, x57, x58, x59, x60, x61, x62, x63, x64, x65, x66, x67, x68, x69, x70, x71, x72, x73, x74, x75, x76, x77, x78, x79, x80, x81, x82], defers := [] } V := by
    intro x0 x5 x6 x7 x8 x11 x15 x16 x17 x18 x19 x20 x21 x22 x23 x24 x25 x26 x27 x28 x29 x30 x31 x32 x33 x34 x35 x36 x37 x38 x39 x40 x41 x42 x43 x44 x45 x46 x47 x48 x49 x50 x51 x52 x53 x54 x55 x56 x57 x58 x59 x60 x61 x62 x63 x64 x65 x66 x67 x68 x69 x70 x71 x72 x73 x74 x75 x76 x77 x78 x79 x80 x81 x82 g A n c V pV h12
    obtain rfl := hO.out
    obtain rfl := hR.out
    refine wpX_any (rs := [6, 8, 9]) (by kernel_rfl) (by simp) ?_
    refine AllX.cons rfl (by decide) (fun K hK => ?_) ?_
    · go_simp
      go_at_call 44
      refine (rfrom_int rest V hr1 hr2).mono ?_
      rintro e u1 ⟨v15, y, rfl, h15, hy, p1⟩
      obtain ⟨s, A2, n2, c2, rfl⟩ := h15.raw
      have h16 : NZ_ u1 9223372036854775808 (.agg #[.int .i64 s, .slice A2 n2 c2]) := ⟨y, h15, by omega⟩
      go_wp2_with fail
      refine hK.out _ _ ((pV.trans p1).cellv d1) ?_
      clear hK K
      try simp only [Act.put, List.setIfInBounds_toArray, List.set_cons_zero, List.set_cons_succ]
      refine wpX_take 7 (v := ?_) (by kernel_rfl) rfl (by kernel_rfl) (fun _ _ _ h => h) (Or.inl ⟨by rfl, ?_⟩) ?_
      rotate_left
      · (intro t hSw; (try dsimp only at hSw); go_simp; try with_reducible rfl)
      simp only [Act.put, List.setIfInBounds_toArray, List.set_cons_zero, List.set_cons_succ]
      refine wpX_at #[true, true, true, true, true, true, true, true, false, false, false, false] (by kernel_rfl) ?_
      exact K300 _ _ _ _ _ _ _ _ _ _ _ _ _ _ _ _ _ _ _ _ _ _ _ _ _ _ _ _ _ _ _ _ _ _ _ _ _ _ _ _ _ _ _ _ _ _ _ _ _ _ _ _ _ _ _ _ _ _ _ _ _ _ _ _ _ _ _ _ _ _ _ _ _ g A n c s A2 n2 c2 _ (pV.trans p1) (h12.pu p1) h16
    refine AllX.cons rfl (by decide) (fun K hK => ?_) ?_
    · go_simp
      refine hK.out _ _ ((pV.trans ((Pu.refl V).alloc _)).cellv d1) ?_
      clear hK K
      try simp only [Act.put, List.setIfInBounds_toArray, List.set_cons_zero, List.set_cons_succ]
      refine wpX_at #[true, true, true, true, true, true, false, false, true, false, false, false] (by kernel_rfl) ?_
      exact K210 _ _ _ _ _ _ _ _ _ _ _ _ _ _ _ _ _ _ _ _ _ _ _ _ _ _ _ _ _ _ _ _ _ _ _ _ _ _ _ _ _ _ _ _ _ _ _ _ _ _ _ _ _ _ _ _ _ _ _ _ _ _ _ _ _ _ _ _ _ _ _ _ _ g A n c V.heap.size _ (pV.trans ((Pu.refl V).alloc _)) (h12.pu ((Pu.refl V).alloc _)) pV.size (Blk.new V _ _)
    refine AllX.cons rfl (by decide) (fun K hK => ?_) ?_
    · go_simp
      refine hK.out _ _ ((pV.trans ((Pu.refl V).alloc _)).cellv d1) ?_
      clear hK K
      try simp only [Act.put, List.setIfInBounds_toArray, List.set_cons_zero, List.set_cons_succ]
      refine wpX_at #[true, true, true, true, true, true, false, false, false, true, false, false] (by kernel_rfl) ?_
      exact K201 _ _ _ _ _ _ _ _ _ _ _ _ _ _ _ _ _ _ _ _ _ _ _ _ _ _ _ _ _ _ _ _ _ _ _ _ _ _ _ _ _ _ _ _ _ _ _ _ _ _ _ _ _ _ _ _ _ _ _ _ _ _ _ _ _ _ _ _ _ _ _ _ _ g A n c V.heap.size _ (pV.trans ((Pu.refl V).alloc _)) (h12.pu ((Pu.refl V).alloc _)) pV.size (Blk.new V _ _)
    exact AllX.nil
  have K111 : ∀ (x0 x7 x8 x12 x15 x16 x17 x18 x19 x20 x21 x22 x23 x24 x25 x26 x27 x28 x29 x30 x31 x32 x33 x34 x35 x36 x37 x38 x39 x40 x41 x42 x43 x44 x45 x46 x47 x48 x49 x50 x51 x52 x53 x54 x55 x56 x57 x58 x59 x60 x61 x62 x63 x64 x65 x66 x67 x68 x69 x70 x71 x72 x73 x74 x75 x76 x77 x78 x79 x80 x81 x82 : Value) (v11 : Value) (b5 : Nat) (b6 : Nat) (V : World) (pV : Pu W V) (h11 : ZR V v11 rest) (hb5 : W.heap.size ≤ b5) (kA : Blk V b5 33 #[.bool false, .slice none 0 0, .pointer none]) (hb6 : W.heap.size ≤ b6) (kB : Blk V b6 56 #[.slice none 0 0, .slice none 0 0, .int .i64 0, .slice none 0 0]) (hab : b5 ≠ b6), wpX Tryz.prog .any O R (fun t => t.cell? ⟨w.heap.size, 1, none⟩ = some (.int .i64 rest)) 11 5 #[true, true, true, false, true, true, false, false, true, true, false, false] { tmps := #[x0, ptr w.heap.size, ptr (w.heap.size + 1), ptr (w.heap.size + 1 + 1), .bool false, ptr b5, ptr b6, x7, x8, .pointer (some ⟨w.heap.size, 1, none⟩), .int .i64 rest, v11, x12, .pointer (some ⟨w.heap.size, 1, none⟩), .int .i64 rest, x15, x16, x17, x18, x19, x20, x21, x22, x23, x24, x25, x26, x27, x28, x29, x30, x31, x32, x33, x34, x35, x36, x37, x38, x39, x40, x41, x42, x43, x44, x45, x46, x47, x48, x49, x50, x51, x52, x53, x54, x55, x56, x57, x58, x59, x60, x61, x62, x63, x64, x65, x66, x67, x68, x69, x70, x71, x72, x73, x74, x75, x76, x77, x78, x79, x80, x81, x82], defers := [] } V := by
    intro x0 x7 x8 x12 x15 x16 x17 x18 x19 x20 x21 x22 x23 x24 x25 x26 x27 x28 x29 x30 x31 x32 x33 x34 x35 x36 x37 x38 x39 x40 x41 x42 x43 x44 x45 x46 x47 x48 x49 x50 x51 x52 x53 x54 x55 x56 x57 x58 x59 x60 x61 x62 x63 x64 x65 x66 x67 x68 x69 x70 x71 x72 x73 x74 x75 x76 x77 x78 x79 x80 x81 x82 v11 b5 b6 V pV h11 hb5 kA hb6 kB hab
    obtain rfl := hO.out
    obtain rfl := hR.out
    refine wpX_any (rs := [3]) (by kernel_rfl) (by simp) ?_
    refine AllX.cons rfl (by decide) (fun K hK => ?_) ?_
    · go_simp
      go_at_call 32
      refine (tnum_none _ rest V h11).mono ?_
      rintro e u1 ⟨g, A, n, c, rfl, h12, p1⟩
      go_wp2_with fail
      refine hK.out _ _ ((pV.trans p1).cellv d1) ?_
      clear hK K
      try simp only [Act.put, List.setIfInBounds_toArray, List.set_cons_zero, List.set_cons_succ]
      refine wpX_at #[true, true, true, true, true, true, false, false, true, true, false, false] (by kernel_rfl) ?_
      exact K211 _ _ _ _ _ _ _ _ _ _ _ _ _ _ _ _ _ _ _ _ _ _ _ _ _ _ _ _ _ _ _ _ _ _ _ _ _ _ _ _ _ _ _ _ _ _ _ _ _ _ _ _ _ _ _ _ _ _ _ _ _ _ _ _ _ _ _ _ _ _ _ _ g A n c b5 b6 _ (pV.trans p1) h12 hb5 (kA.pu p1) hb6 (kB.pu p1) hab
    exact AllX.nil
  have K110 : ∀ (x0 x6 x7 x8 x12 x15 x16 x17 x18 x19 x20 x21 x22 x23 x24 x25 x26 x27 x28 x29 x30 x31 x32 x33 x34 x35 x36 x37 x38 x39 x40 x41 x42 x43 x44 x45 x46 x47 x48 x49 x50 x51 x52 x53 x54 x55 x56 x57 x58 x59 x60 x61 x62 x63 x64 x65 x66 x67 x68 x69 x70 x71 x72 x73 x74 x75 x76 x77 x78 x79 x80 x81 x82 : Value) (v11 : Value) (b5 : Nat) (V : World) (pV : Pu W V) (h11 : ZR V v11 rest) (hb5 : W.heap.size ≤ b5) (kA : Blk V b5 33 #[.bool false, .slice none 0 0, .pointer none]), wpX Tryz.prog .any O R (fun t => t.cell? ⟨w.heap.size, 1, none⟩ = some (.int .i64 rest)) 11 6 #[true, true, true, false, true, true, false, false, true, false, false, false] { tmps := #[x0, ptr w.heap.size, ptr (w.heap.size + 1), ptr (w.heap.size + 1 + 1), .bool false, ptr b5, x6, x7, x8, .pointer (some ⟨w.heap.size, 1, none⟩), .int .i64 rest, v11, x12, .pointer (some ⟨w.heap.size, 1, none⟩), .int .i64 rest, x15, x16, x17, x18, x19, x20, x21, x22, x23, x24, x25, x26, x27, x28, x29, x30, x31, x32, x33, x34, x35, x36, x37, x38, x39, x40, x41, x42, x43, x44, x45, x46, x47, x48, x49, x50, x51, x52, x53, x54, x55, x56, x57, x58, x59, x60, x61, x62, x63, x64, x65, x66, x67, x68, x69, x70, x71, x72, x73, x74, x75, x76, x77, x78, x79, x80, x81, x82], defers := [] } V := by
    intro x0 x6 x7 x8 x12 x15 x16 x17 x18 x19 x20 x21 x22 x23 x24 x25 x26 x27 x28 x29 x30 x31 x32 x33 x34 x35 x36 x37 x38 x39 x40 x41 x42 x43 x44 x45 x46 x47 x48 x49 x50 x51 x52 x53 x54 x55 x56 x57 x58 x59 x60 x61 x62 x63 x64 x65 x66 x67 x68 x69 x70 x71 x72 x73 x74 x75 x76 x77 x78 x79 x80 x81 x82 v11 b5 V pV h11 hb5 kA
    obtain rfl := hO.out
    obtain rfl := hR.out
    refine wpX_any (rs := [3, 9]) (by kernel_rfl) (by simp) ?_
    refine AllX.cons rfl (by decide) (fun K hK => ?_) ?_
    · go_simp
      go_at_call 32
      refine (tnum_none _ rest V h11).mono ?_
      rintro e u1 ⟨g, A, n, c, rfl, h12, p1⟩
      go_wp2_with fail
      refine hK.out _ _ ((pV.trans p1).cellv d1) ?_
      clear hK K
      try simp only [Act.put, List.setIfInBounds_toArray, List.set_cons_zero, List.set_cons_succ]
      refine wpX_at #[true, true, true, true, true, true, false, false, true, false, false, false] (by kernel_rfl) ?_
      exact K210 _ _ _ _ _ _ _ _ _ _ _ _ _ _ _ _ _ _ _ _ _ _ _ _ _ _ _ _ _ _ _ _ _ _ _ _ _ _ _ _ _ _ _ _ _ _ _ _ _ _ _ _ _ _ _ _ _ _ _ _ _ _ _ _ _ _ _ _ _ _ _ _ _ g A n c b5 _ (pV.trans p1) h12 hb5 (kA.pu p1)
    refine AllX.cons rfl (by decide) (fun K hK => ?_) ?_
    · go_simp
      refine hK.out _ _ ((pV.trans ((Pu.refl V).alloc _)).cellv d1) ?_
      clear hK K
      try simp only [Act.put, List.setIfInBounds_toArray, List.set_cons_zero, List.set_cons_succ]
      refine wpX_at #[true, true, true, false, true, true, false, false, true, true, false, false] (by kernel_rfl) ?_
      exact K111 _ _ _ _ _ _ _ _ _ _ _ _ _ _ _ _ _ _ _ _ _ _ _ _ _ _ _ _ _ _ _ _ _ _ _ _ _ _ _ _ _ _ _ _ _ _ _ _ _ _ _ _ _ _ _ _ _ _ _ _ _ _ _ _ _ _ _ _ _ _ _ _ v11 b5 V.heap.size _ (pV.trans ((Pu.refl V).alloc _)) (h11.pu ((Pu.refl V).alloc _)) hb5 (kA.pu ((Pu.refl V).alloc _)) pV.size (Blk.new V _ _) (Nat.ne_of_lt kA.lt)
    exact AllX.nil
  have K101 : ∀ (x0 x5 x7 x8 x12 x15 x16 x17 x18 x19 x20 x21 x22 x23 x24 x25 x26 x27 x28 x29 x30 x31 x32 x33 x34 x35 x36 x37 x38 x39 x40 x41 x42 x43 x44 x45 x46 x47 x48 x49 x50 x51 x52 x53 x54 x55 x56 x57 x58 x59 x60 x61 x62 x63 x64 x65 x66 x67 x68 x69 x70 x71 x72 x73 x74 x75 x76 x77 x78 x79 x80 x81 x82 : Value) (v11 : Value) (b6 : Nat) (V : World) (pV : Pu W V) (h11 : ZR V v11 rest) (hb6 : W.heap.size ≤ b6) (kB : Blk V b6 56 #[.slice none 0 0, .slice none 0 0, .int .i64 0, .slice none 0 0]), wpX Tryz.prog .any O R (fun t => t.cell? ⟨w.heap.size, 1, none⟩ = some (.int .i64 rest)) 11 6 #[true, true, true, false, true, true, false, false, false, true, false, false] { tmps := #[x0, ptr w.heap.size, ptr (w.heap.size + 1), ptr (w.heap.size + 1 + 1), .bool false, x5, ptr b6, x7, x8, .pointer (some ⟨w.heap.size, 1, none⟩), .int .i64 rest, v11, x12, .pointer (some ⟨w.heap.size, 1, none⟩), .int .i64 rest, x15, x16, x17, x18, x19, x20, x21, x22, x23, x24, x25, x26, x27, x28, x29, x30, x31, x32, x33, x34, x35, x36, x37, x38, x39, x40, x41, x42, x43, x44, x45, x46, x47, x48, x49, x50, x51, x52, x53, x54, x55, x56, x57, x58, x59, x60, x61, x62, x63, x64, x65, x66, x67, x68, x69, x70, x71, x72, x73, x74, x75, x76, x77, x78, x79, x80, x81, x82], defers := [] } V := by
    intro x0 x5 x7 x8 x12 x15 x16 x17 x18 x19 x20 x21 x22 x23 x24 x25 x26 x27 x28 x29 x30 x31 x32 x33 x34 x35 x36 x37 x38 x39 x40 x41 x42 x43 x44 x45 x46 x47 x48 x49 x50 x51 x52 x53 x54 x55 x56 x57 x58 x59 x60 x61 x62 x63 x64 x65 x66 x67 x68 x69 x70 x71 x72 x73 x74 x75 x76 x77 x78 x79 x80 x81 x82 v11 b6 V pV h11 hb6 kB
    obtain rfl := hO.out
    obtain rfl := hR.out
    refine wpX_any (rs := [3, 8]) (by kernel_rfl) (by simp) ?_
    refine AllX.cons rfl (by decide) (fun K hK => ?_) ?_
    · go_simp
      go_at_call 32
      refine (tnum_none _ rest V h11).mono ?_
      rintro e u1 ⟨g, A, n, c, rfl, h12, p1⟩
      go_wp2_with fail
      refine hK.out _ _ ((pV.trans p1).cellv d1) ?_
      clear hK K
      try simp only [Act.put, List.setIfInBounds_toArray, List.set_cons_zero, List.set_cons_succ]
      refine wpX_at #[true, true, true, true, true, true, false, false, false, true, false, false] (by kernel_rfl) ?_
      exact K201 _ _ _ _ _ _ _ _ _ _ _ _ _ _ _ _ _ _ _ _ _ _ _ _ _ _ _ _ _ _ _ _ _ _ _ _ _ _ _ _ _ _ _ _ _ _ _ _ _ _ _ _ _ _ _ _ _ _ _ _ _ _ _ _ _ _ _ _ _ _ _ _ _ g A n c b6 _ (pV.trans p1) h12 hb6 (kB.pu p1)
    refine AllX.cons rfl (by decide) (fun K hK => ?_) ?_
    · go_simp
      refine hK.out _ _ ((pV.trans ((Pu.refl V).alloc _)).cellv d1) ?_
      clear hK K
      try simp only [Act.put, List.setIfInBounds_toArray, List.set_cons_zero, List.set_cons_succ]
      refine wpX_at #[true, true, true, false, true, true, false, false, true, true, false, false] (by kernel_rfl) ?_
      exact K111 _ _ _ _ _ _ _ _ _ _ _ _ _ _ _ _ _ _ _ _ _ _ _ _ _ _ _ _ _ _ _ _ _ _ _ _ _ _ _ _ _ _ _ _ _ _ _ _ _ _ _ _ _ _ _ _ _ _ _ _ _ _ _ _ _ _ _ _ _ _ _ _ v11 V.heap.size b6 _ (pV.trans ((Pu.refl V).alloc _)) (h11.pu ((Pu.refl V).alloc _)) pV.size (Blk.new V _ _) hb6 (kB.pu ((Pu.refl V).alloc _)) (Nat.ne_of_gt kB.lt)
    exact AllX.nil
  have K100 : ∀ (x0 x5 x6 x7 x8 x12 x15 x16 x17 x18 x19 x20 x21 x22 x23 x24 x25 x26 x27 x28 x29 x30 x31 x32 x33 x34 x35 x36 x37 x38 x39 x40 x41 x42 x43 x44 x45 x46 x47 x48 x49 x50 x51 x52 x53 x54 x55 x56 x57 x58 x59 x60 x61 x62 x63 x64 x65 x66 x67 x68 x69 x70 x71 x72 x73 x74 x75 x76 x77 x78 x79 x80 x81 x82 : Value) (v11 : Value) (V : World) (pV : Pu W V) (h11 : ZR V v11 rest), wpX Tryz.prog .any O R (fun t => t.cell? ⟨w.heap.size, 1, none⟩ = some (.int .i64 rest)) 11 7 #[true, true, true, false, true, true, false, false, false, false, false, false] { tmps := #[x0, ptr w.heap.size, ptr (w.heap.size + 1), ptr (w.heap.size + 1 + 1), .bool false, x5, x6, x7, x8, .pointer (some ⟨w.heap.size, 1, none⟩), .int .i64 rest, v11, x12, .pointer (some ⟨w.heap.size, 1, none⟩), .int .i64 rest, x15, x16, x17, x18, x19, x20, x21, x22, x23, x24, x25, x26, x27, x28, x29, x30, x31, x32, x33, x34, x35, x36, x37, x38, x39, x40, x41, x42, x43, x44, x45, x46, x47, x48, x49, x50, x51, x52, x53, x54, x55, x56, x57, x58, x59, x60, x61, x62, x63, x64, x65, x66, x67, x68, x69, x70, x71, x72, x73, x74, x75, x76, x77, x78, x79, x80, x81, x82], defers := [] } V := by
    intro x0 x5 x6 x7 x8 x12 x15 x16 x17 x18 x19 x20 x21 x22 x23 x24 x25 x26 x27 x28 x29 x30 x31 x32 x33 x34 x35 x36 x37 x38 x39 x40 x41 x42 x43 x44 x45 x46 x47 x48 x49 x50 x51 x52 x53 x54 x55 x56 x57 x58 x59 x60 x61 x62 x63 x64 x65 x66 x67 x68 x69 x70 x71 x72 x73 x74 x75 x76 x77 x78 x79 x80 x81 x82 v11 V pV h11
    obtain rfl := hO.out
    obtain rfl := hR.out
    refine wpX_any (rs := [3, 8, 9]) (by kernel_rfl) (by simp) ?_
    refine AllX.cons rfl (by decide) (fun K hK => ?_) ?_
    · go_simp
      go_at_call 32
      refine (tnum_none _ rest V h11).mono ?_
      rintro e u1 ⟨g, A, n, c, rfl, h12, p1⟩
      go_wp2_with fail
      refine hK.out _ _ ((pV.trans p1).cellv d1) ?_
      clear hK K
      try simp only [Act.put, List.setIfInBounds_toArray, List.set_cons_zero, List.set_cons_succ]
      refine wpX_at #[true, true, true, true, true, true, false, false, false, false, false, false] (by kernel_rfl) ?_
      exact K200 _ _ _ _ _ _ _ _ _ _ _ _ _ _ _ _ _ _ _ _ _ _ _ _ _ _ _ _ _ _ _ _ _ _ _ _ _ _ _ _ _ _ _ _ _ _ _ _ _ _ _ _ _ _ _ _ _ _ _ _ _ _ _ _ _ _ _ _ _ _ _ _ _ _ g A n c _ (pV.trans p1) h12
    refine AllX.cons rfl (by decide) (fun K hK => ?_) ?_
    · go_simp
      refine hK.out _ _ ((pV.trans ((Pu.refl V).alloc _)).cellv d1) ?_
      clear hK K
      try simp only [Act.put, List.setIfInBounds_toArray, List.set_cons_zero, List.set_cons_succ]
      refine wpX_at #[true, true, true, false, true, true, false, false, true, false, false, false] (by kernel_rfl) ?_
      exact K110 _ _ _ _ _ _ _ _ _ _ _ _ _ _ _ _ _ _ _ _ _ _ _ _ _ _ _ _ _ _ _ _ _ _ _ _ _ _ _ _ _ _ _ _ _ _ _ _ _ _ _ _ _ _ _ _ _ _ _ _ _ _ _ _ _ _ _ _ _ _ _ _ _ v11 V.heap.size _ (pV.trans ((Pu.refl V).alloc _)) (h11.pu ((Pu.refl V).alloc _)) pV.size (Blk.new V _ _)
    refine AllX.cons rfl (by decide) (fun K hK => ?_) ?_
    · go_simp
      refine hK.out _ _ ((pV.trans ((Pu.refl V).alloc _)).cellv d1) ?_
      clear hK K
      try simp only [Act.put, List.setIfInBounds_toArray, List.set_cons_zero, List.set_cons_succ]
      refine wpX_at #[true, true, true, false, true, true, false, false, false, true, false, false] (by kernel_rfl) ?_
      exact K101 _ _ _ _ _ _ _ _ _ _ _ _ _ _ _ _ _ _ _ _ _ _ _ _ _ _ _ _ _ _ _ _ _ _ _ _ _ _ _ _ _ _ _ _ _ _ _ _ _ _ _ _ _ _ _ _ _ _ _ _ _ _ _ _ _ _ _ _ _ _ _ _ _ v11 V.heap.size _ (pV.trans ((Pu.refl V).alloc _)) (h11.pu ((Pu.refl V).alloc _)) pV.size (Blk.new V _ _)
    exact AllX.nil
  have K011 : ∀ (x0 x7 x8 x11 x12 x15 x16 x17 x18 x19 x20 x21 x22 x23 x24 x25 x26 x27 x28 x29 x30 x31 x32 x33 x34 x35 x36 x37 x38 x39 x40 x41 x42 x43 x44 x45 x46 x47 x48 x49 x50 x51 x52 x53 x54 x55 x56 x57 x58 x59 x60 x61 x62 x63 x64 x65 x66 x67 x68 x69 x70 x71 x72 x73 x74 x75 x76 x77 x78 x79 x80 x81 x82 : Value) (b5 : Nat) (b6 : Nat) (V : World) (pV : Pu W V) (hb5 : W.heap.size ≤ b5) (kA : Blk V b5 33 #[.bool false, .slice none 0 0, .pointer none]) (hb6 : W.heap.size ≤ b6) (kB : Blk V b6 56 #[.slice none 0 0, .slice none 0 0, .int .i64 0, .slice none 0 0]) (hab : b5 ≠ b6), wpX Tryz.prog .any O R (fun t => t.cell? ⟨w.heap.size, 1, none⟩ = some (.int .i64 rest)) 11 6 #[true, true, false, false, true, true, false, false, true, true, false, false] { tmps := #[x0, ptr w.heap.size, ptr (w.heap.size + 1), ptr (w.heap.size + 1 + 1), .bool false, ptr b5, ptr b6, x7, x8, .pointer (some ⟨w.heap.size, 1, none⟩), .int .i64 rest, x11, x12, .pointer (some ⟨w.heap.size, 1, none⟩), .int .i64 rest, x15, x16, x17, x18, x19, x20, x21, x22, x23, x24, x25, x26, x27, x28, x29, x30, x31, x32, x33, x34, x35, x36, x37, x38, x39, x40, x41, x42, x43, x44, x45, x46, x47, x48, x49, x50, x51, x52, x53, x54, x55, x56, x57, x58, x59, x60, x61, x62, x63, x64, x65, x66, x67, x68, x69, x70, x71, x72, x73, x74, x75, x76, x77, x78, x79, x80, x81, x82], defers := [] } V := by
    intro x0 x7 x8 x11 x12 x15 x16 x17 x18 x19 x20 x21 x22 x23 x24 x25 x26 x27 x28 x29 x30 x31 x32 x33 x34 x35 x36 x37 x38 x39 x40 x41 x42 x43 x44 x45 x46 x47 x48 x49 x50 x51 x52 x53 x54 x55 x56 x57 x58 x59 x60 x61 x62 x63 x64 x65 x66 x67 x68 x69 x70 x71 x72 x73 x74 x75 x76 x77 x78 x79 x80 x81 x82 b5 b6 V pV hb5 kA hb6 kB hab
    obtain rfl := hO.out
    obtain rfl := hR.out
    refine wpX_any (rs := [2]) (by kernel_rfl) (by simp) ?_
    refine AllX.cons rfl (by decide) (fun K hK => ?_) ?_
    · go_simp
      go_at_call 30
      refine (from_any rest V hr1 hr2).mono ?_
      rintro e u1 ⟨v11, rfl, h11, p1⟩
      go_wp2_with fail
      refine hK.out _ _ ((pV.trans p1).cellv d1) ?_
      clear hK K
      try simp only [Act.put, List.setIfInBounds_toArray, List.set_cons_zero, List.set_cons_succ]
      refine wpX_at #[true, true, true, false, true, true, false, false, true, true, false, false] (by kernel_rfl) ?_
      exact K111 _ _ _ _ _ _ _ _ _ _ _ _ _ _ _ _ _ _ _ _ _ _ _ _ _ _ _ _ _ _ _ _ _ _ _ _ _ _ _ _ _ _ _ _ _ _ _ _ _ _ _ _ _ _ _ _ _ _ _ _ _ _ _ _ _ _ _ _ _ _ _ _ v11 b5 b6 _ (pV.trans p1) h11 hb5 (kA.pu p1) hb6 (kB.pu p1) hab
    exact AllX.nil
  have K010 : ∀ (x0 x6 x7 x8 x11 x12 x15 x16 x17 x18 x19 x20 x21 x22 x23 x24 x25 x26 x27 x28 x29 x30 x31 x32 x33 x34 x35 x36 x37 x38 x39 x40 x41 x42 x43 x44 x45 x46 x47 x48 x49 x50 x51 x52 x53 x54 x55 x56 x57 x58 x59 x60 x61 x62 x63 x64 x65 x66 x67 x68 x69 x70 x71 x72 x73 x74 x75 x76 x77 x78 x79 x80 x81 x82 : Value) (b5 : Nat) (V : World) (pV : Pu W V) (hb5 : W.heap.size ≤ b5) (kA : Blk V b5 33 #[.bool false, .slice none 0 0, .pointer none]), wpX Tryz.prog .any O R (fun t => t.cell? ⟨w.heap.size, 1, none⟩ = some (.int .i64 rest)) 11 7 #[true, true, false, false, true, true, false, false, true, false, false, false] { tmps := #[x0, ptr w.heap.size, ptr (w.heap.size + 1), ptr (w.heap.size + 1 + 1), .bool false, ptr b5, x6, x7, x8, .pointer (some ⟨w.heap.size, 1, none⟩), .int .i64 rest, x11, x12, .pointer (some ⟨w.heap.size, 1, none⟩), .int .i64 rest, x15, x16, x17, x18, x19, x20, x21, x22, x23, x24, x25, x26, x27, x28, x29, x30, x31, x32, x33, x34, x35, x36, x37, x38, x39, x40, x41, x42, x43, x44, x45, x46, x47, x48, x49, x50, x51, x52, x53, x54, x55, x56, x57, x58, x59, x60, x61, x62, x63, x64, x65, x66, x67, x68, x69, x70, x71, x72, x73, x74, x75, x76, x77, x78, x79, x80, x81, x82], defers := [] } V := by
    intro x0 x6 x7 x8 x11 x12 x15 x16 x17 x18 x19 x20 x21 x22 x23 x24 x25 x26 x27 x28 x29 x30 x31 x32 x33 x34 x35 x36 x37 x38 x39 x40 x41 x42 x43 x44 x45 x46 x47 x48 x49 x50 x51 x52 x53 x54 x55 x56 x57 x58 x59 x60 x61 x62 x63 x64 x65 x66 x67 x68 x69 x70 x71 x72 x73 x74 x75 x76 x77 x78 x79 x80 x81 x82 b5 V pV hb5 kA
    obtain rfl := hO.out
    obtain rfl := hR.out
    refine wpX_any (rs := [2, 9]) (by kernel_rfl) (by simp) ?_
    refine AllX.cons rfl (by decide) (fun K hK => ?_) ?_
    · go_simp
      go_at_call 30
      refine (from_any rest V hr1 hr2).mono ?_
      rintro e u1 ⟨v11, rfl, h11, p1⟩
      go_wp2_with fail
      refine hK.out _ _ ((pV.trans p1).cellv d1) ?_
      clear hK K
      try simp only [Act.put, List.setIfInBounds_toArray, List.set_cons_zero, List.set_cons_succ]
      refine wpX_at #[true, true, true, false, true, true, false, false, true, false, false, false] (by kernel_rfl) ?_
      exact K110 _ _ _ _ _ _ _ _ _ _ _ _ _ _ _ _ _ _ _ _ _ _ _ _ _ _ _ _ _ _ _ _ _ _ _ _ _ _ _ _ _ _ _ _ _ _ _ _ _ _ _ _ _ _ _ _ _ _ _ _ _ _ _ _ _ _ _ _ _ _ _ _ _ v11 b5 _ (pV.trans p1) h11 hb5 (kA.pu p1)
    refine AllX.cons rfl (by decide) (fun K hK => ?_) ?_
    · go_simp
      refine hK.out _ _ ((pV.trans ((Pu.refl V).alloc _)).cellv d1) ?_
      clear hK K
      try simp only [Act.put, List.setIfInBounds_toArray, List.set_cons_zero, List.set_cons_succ]
      refine wpX_at #[true, true, false, false, true, true, false, false, true, true, false, false] (by kernel_rfl) ?_
      exact K011 _ _ _ _ _ _ _ _ _ _ _ _ _ _ _ _ _ _ _ _ _ _ _ _ _ _ _ _ _ _ _ _ _ _ _ _ _ _ _ _ _ _ _ _ _ _ _ _ _ _ _ _ _ _ _ _ _ _ _ _ _ _ _ _ _ _ _ _ _ _ _ _ _ b5 V.heap.size _ (pV.trans ((Pu.refl V).alloc _)) hb5 (kA.pu ((Pu.refl V).alloc _)) pV.size (Blk.new V _ _) (Nat.ne_of_lt kA.lt)
    exact AllX.nil
  have K001 : ∀ (x0 x5 x7 x8 x11 x12 x15 x16 x17 x18 x19 x20 x21 x22 x23 x24 x25 x26 x27 x28 x29 x30 x31 x32 x33 x34 x35 x36 x37 x38 x39 x40 x41 x42 x43 x44 x45 x46 x47 x48 x49 x50 x51 x52 x53 x54 x55 x56 x57 x58 x59 x60 x61 x62 x63 x64 x65 x66 x67 x68 x69 x70 x71 x72 x73 x74 x75 x76 x77 x78 x79 x80 x81 x82 : Value) (b6 : Nat) (V : World) (pV : Pu W V) (hb6 : W.heap.size ≤ b6) (kB : Blk V b6 56 #[.slice none 0 0, .slice none 0 0, .int .i64 0, .slice none 0 0]), wpX Tryz.prog .any O R (fun t => t.cell? ⟨w.heap.size, 1, none⟩ = some (.int .i64 rest)) 11 7 #[true, true, false, false, true, true, false, false, false, true, false, false] { tmps := #[x0, ptr w.heap.size, ptr (w.heap.size + 1), ptr (w.heap.size + 1 + 1), .bool false, x5, ptr b6, x7, x8, .pointer (some ⟨w.heap.size, 1, none⟩), .int .i64 rest, x11, x12, .pointer (some ⟨w.heap.size, 1, none⟩), .int .i64 rest, x15, x16, x17, x18, x19, x20, x21, x22, x23, x24, x25, x26, x27, x28, x29, x30, x31, x32, x33, x34, x35, x36, x37, x38, x39, x40, x41, x42, x43, x44, x45, x46, x47, x48, x49, x50, x51, x52, x53, x54, x55, x56, x57, x58, x59, x60, x61, x62, x63, x64, x65, x66, x67, x68, x69, x70, x71, x72, x73, x74, x75, x76, x77, x78, x79, x80, x81, x82], defers := [] } V := by
    intro x0 x5 x7 x8 x11 x12 x15 x16 x17 x18 x19 x20 x21 x22 x23 x24 x25 x26 x27 x28 x29 x30 x31 x32 x33 x34 x35 x36 x37 x38 x39 x40 x41 x42 x43 x44 x45 x46 x47 x48 x49 x50 x51 x52 x53 x54 x55 x56 x57 x58 x59 x60 x61 x62 x63 x64 x65 x66 x67 x68 x69 x70 x71 x72 x73 x74 x75 x76 x77 x78 x79 x80 x81 x82 b6 V pV hb6 kB
    obtain rfl := hO.out
    obtain rfl := hR.out
    refine wpX_any (rs := [2, 8]) (by kernel_rfl) (by simp) ?_
    refine AllX.cons rfl (by decide) (fun K hK => ?_) ?_
    · go_simp
      go_at_call 30
      refine (from_any rest V hr1 hr2).mono ?_
      rintro e u1 ⟨v11, rfl, h11, p1⟩
      go_wp2_with fail
      refine hK.out _ _ ((pV.trans p1).cellv d1) ?_
      clear hK K
      try simp only [Act.put, List.setIfInBounds_toArray, List.set_cons_zero, List.set_cons_succ]
      refine wpX_at #[true, true, true, false, true, true, false, false, false, true, false, false] (by kernel_rfl) ?_
      exact K101 _ _ _ _ _ _ _ _ _ _ _ _ _ _ _ _ _ _ _ _ _ _ _ _ _ _ _ _ _ _ _ _ _ _ _ _ _ _ _ _ _ _ _ _ _ _ _ _ _ _ _ _ _ _ _ _ _ _ _ _ _ _ _ _ _ _ _ _ _ _ _ _ _ v11 b6 _ (pV.trans p1) h11 hb6 (kB.pu p1)
    refine AllX.cons rfl (by decide) (fun K hK => ?_) ?_
    · go_simp
      refine hK.out _ _ ((pV.trans ((Pu.refl V).alloc _)).cellv d1) ?_
      clear hK K
      try simp only [Act.put, List.setIfInBounds_toArray, List.set_cons_zero, List.set_cons_succ]
      refine wpX_at #[true, true, false, false, true, true, false, false, true, true, false, false] (by kernel_rfl) ?_
      exact K011 _ _ _ _ _ _ _ _ _ _ _ _ _ _ _ _ _ _ _ _ _ _ _ _ _ _ _ _ _ _ _ _ _ _ _ _ _ _ _ _ _ _ _ _ _ _ _ _ _ _ _ _ _ _ _ _ _ _ _ _ _ _ _ _ _ _ _ _ _ _ _ _ _ V.heap.size b6 _ (pV.trans ((Pu.refl V).alloc _)) pV.size (Blk.new V _ _) hb6 (kB.pu ((Pu.refl V).alloc _)) (Nat.ne_of_gt kB.lt)
    exact AllX.nil
  have K000 : ∀ (x0 x5 x6 x7 x8 x11 x12 x15 x16 x17 x18 x19 x20 x21 x22 x23 x24 x25 x26 x27 x28 x29 x30 x31 x32 x33 x34 x35 x36 x37 x38 x39 x40 x41 x42 x43 x44 x45 x46 x47 x48 x49 x50 x51 x52 x53 x54 x55 x56 x57 x58 x59 x60 x61 x62 x63 x64 x65 x66 x67 x68 x69 x70 x71 x72 x73 x74 x75 x76 x77 x78 x79 x80 x81 x82 : Value) (V : World) (pV : Pu W V), wpX Tryz.prog .any O R (fun t => t.cell? ⟨w.heap.size, 1, none⟩ = some (.int .i64 rest)) 11 8 #[true, true, false, false, true, true, false, false, false, false, false, false] { tmps := #[x0, ptr w.heap.size, ptr (w.heap.size + 1), ptr (w.heap.size + 1 + 1), .bool false, x5, x6, x7, x8, .pointer (some ⟨w.heap.size, 1, none⟩), .int .i64 rest, x11, x12, .pointer (some ⟨w.heap.size, 1, none⟩), .int .i64 rest, x15, x16, x17, x18, x19, x20, x21, x22, x23, x24, x25, x26, x27, x28, x29, x30, x31, x32, x33, x34, x35, x36, x37, x38, x39, x40, x41, x42, x43, x44, x45, x46, x47, x48, x49, x50, x51, x52, x53, x54, x55, x56, x57, x58, x59, x60, x61, x62, x63, x64, x65, x66, x67, x68, x69, x70, x71, x72, x73, x74, x75, x76, x77, x78, x79, x80, x81, x82], defers := [] } V := by
    intro x0 x5 x6 x7 x8 x11 x12 x15 x16 x17 x18 x19 x20 x21 x22 x23 x24 x25 x26 x27 x28 x29 x30 x31 x32 x33 x34 x35 x36 x37 x38 x39 x40 x41 x42 x43 x44 x45 x46 x47 x48 x49 x50 x51 x52 x53 x54 x55 x56 x57 x58 x59 x60 x61 x62 x63 x64 x65 x66 x67 x68 x69 x70 x71 x72 x73 x74 x75 x76 x77 x78 x79 x80 x81 x82 V pV
    obtain rfl := hO.out
    obtain rfl := hR.out
    refine wpX_any (rs := [2, 8, 9]) (by kernel_rfl) (by simp) ?_
    refine AllX.cons rfl (by decide) (fun K hK => ?_) ?_
    · go_simp
      go_at_call 30
      refine (from_any rest V hr1 hr2).mono ?_
      rintro e u1 ⟨v11, rfl, h11, p1⟩
      go_wp2_with fail
      refine hK.out _ _ ((pV.trans p1).cellv d1) ?_
      clear hK K
      try simp only [Act.put, List.setIfInBounds_toArray, List.set_cons_zero, List.set_cons_succ]
      refine wpX_at #[true, true, true, false, true, true, false, false, false, false, false, false] (by kernel_rfl) ?_
      exact K100 _ _ _ _ _ _ _ _ _ _ _ _ _ _ _ _ _ _ _ _ _ _ _ _ _ _ _ _ _ _ _ _ _ _ _ _ _ _ _ _ _ _ _ _ _ _ _ _ _ _ _ _ _ _ _ _ _ _ _ _ _ _ _ _ _ _ _ _ _ _ _ _ _ _ v11 _ (pV.trans p1) h11
    refine AllX.cons rfl (by decide) (fun K hK => ?_) ?_
    · go_simp
      refine hK.out _ _ ((pV.trans ((Pu.refl V).alloc _)).cellv d1) ?_
      clear hK K
      try simp only [Act.put, List.setIfInBounds_toArray, List.set_cons_zero, List.set_cons_succ]
      refine wpX_at #[true, true, false, false, true, true, false, false, true, false, false, false] (by kernel_rfl) ?_
      exact K010 _ _ _ _ _ _ _ _ _ _ _ _ _ _ _ _ _ _ _ _ _ _ _ _ _ _ _ _ _ _ _ _ _ _ _ _ _ _ _ _ _ _ _ _ _ _ _ _ _ _ _ _ _ _ _ _ _ _ _ _ _ _ _ _ _ _ _ _ _ _ _ _ _ _ V.heap.size _ (pV.trans ((Pu.refl V).alloc _)) pV.size (Blk.new V _ _)
    refine AllX.cons rfl (by decide) (fun K hK => ?_) ?_
    · go_simp
      refine hK.out _ _ ((pV.trans ((Pu.refl V).alloc _)).cellv d1) ?_
      clear hK K
      try simp only [Act.put, List.setIfInBounds_toArray, List.set_cons_zero, List.set_cons_succ]
      refine wpX_at #[true, true, false, false, true, true, false, false, false, true, false, false] (by kernel_rfl) ?_
      exact K001 _ _ _ _ _ _ _ _ _ _ _ _ _ _ _ _ _ _ _ _ _ _ _ _ _ _ _ _ _ _ _ _ _ _ _ _ _ _ _ _ _ _ _ _ _ _ _ _ _ _ _ _ _ _ _ _ _ _ _ _ _ _ _ _ _ _ _ _ _ _ _ _ _ _ V.heap.size _ (pV.trans ((Pu.refl V).alloc _)) pV.size (Blk.new V _ _)
    exact AllX.nil
  obtain rfl := hO.out
  obtain rfl := hR.out
  refine wpX_take 0 (v := ?_) (by kernel_rfl) rfl (by kernel_rfl) (fun _ _ _ h => h) (Or.inl ⟨by rfl, ?_⟩) ?_
  rotate_left
  · (intro t hSw; (try dsimp only at hSw); go_simp; try with_reducible rfl)
  simp only [Act.put, List.setIfInBounds_toArray, List.set_cons_zero, List.set_cons_succ]
  refine wpX_take 1 (v := ?_) (by kernel_rfl) rfl (by kernel_rfl) (fun _ _ _ h => h) (Or.inl ⟨by rfl, ?_⟩) ?_
  rotate_left
  · (intro t hSw; (try dsimp only at hSw); go_simp; try with_reducible rfl)
  simp only [Act.put, List.setIfInBounds_toArray, List.set_cons_zero, List.set_cons_succ]
  refine wpX_take 4 (v := ?_) (by kernel_rfl) rfl (by kernel_rfl) (fun _ _ _ h => h) (Or.inl ⟨by rfl, ?_⟩) ?_
  rotate_left
  · (intro t hSw; (try dsimp only at hSw); go_simp; try with_reducible rfl)
  simp only [Act.put, List.setIfInBounds_toArray, List.set_cons_zero, List.set_cons_succ]
  refine wpX_take 5 (v := ?_) (by kernel_rfl) rfl (by kernel_rfl) (fun _ _ _ h => h) (Or.inl ⟨by rfl, ?_⟩) ?_
  rotate_left
  · (intro t hSw; (try dsimp only at hSw); go_simp; try with_reducible rfl)
  simp only [Act.put, List.setIfInBounds_toArray, List.set_cons_zero, List.set_cons_succ]
  refine wpX_at #[true, true, false, false, true, true, false, false, false, false, false, false] (by kernel_rfl) ?_
  exact K000 _ _ _ _ _ _ _ _ _ _ _ _ _ _ _ _ _ _ _ _ _ _ _ _ _ _ _ _ _ _ _ _ _ _ _ _ _ _ _ _ _ _ _ _ _ _ _ _ _ _ _ _ _ _ _ _ _ _ _ _ _ _ _ _ _ _ _ _ _ _ _ _ _ _ _ _ pV0
end
end Go.Proofs.YtckfnbckoclhpaaGreatDoor
