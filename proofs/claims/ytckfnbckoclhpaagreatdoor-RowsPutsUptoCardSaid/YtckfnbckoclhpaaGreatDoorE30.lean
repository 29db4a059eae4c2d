/- The law's numbers: touchstonelaw16.values. A term in a name's place: what the numbers say (plain). The law RowsPuts, walked. -/
import Derived.Test.YtckfnbckoclhpaaGreatDoorE29
import Derived.Test.YtckfnbckoclhpaaGreatDoorE27
import Derived.Test.YtckfnbckoclhpaaGreatDoorE28
namespace Go.Proofs.YtckfnbckoclhpaaGreatDoor
section
set_option linter.unusedVariables false
set_option linter.unusedSimpArgs false
open Go.RowKit
def valsM (ps : List (Key × Int)) : List (Key × Int) := ps.foldl (fun m p => putM m p.1 p.2) []
theorem valsM_next {ps : List (Key × Int)} {i : Nat} {p : Key × Int} (h : ps[i]? = some p) : valsM (ps.take (i + 1)) = putM (valsM (ps.take i)) p.1 p.2 := by
  unfold valsM
  rw [List.take_add_one, h, List.foldl_append]
  rfl
theorem valsM_len (ps : List (Key × Int)) : ∀ i, i ≤ ps.length → (valsM (ps.take i)).length ≤ i := by
  intro i
  induction i with
  | zero => intro _; simp [valsM]
  | succ i ih =>
    intro h
    have hi : ps[i]? = some ps[i] := List.getElem?_eq_getElem (by omega)
    rw [valsM_next hi]
    have := putM_len (valsM (ps.take i)) ps[i].1 ps[i].2
    have := ih (by omega)
    omega
def okV (ps : List (Key × Int)) : Bool := decide (ps.length ≤ 12) && ps.all fun p => inR p.2
def ValsPost (ps : List (Key × Int)) (w : World) (e : Ending) (w' : World) : Prop :=
  ∃ b r L m, e = .returned (.tuple #[.pointer (some ⟨b, 0, none⟩), .bool (okV ps)]) ∧ MOZ w' w.heap.size b r L ∧ HoldM w' L m ∧ (okV ps = true → m = valsM ps ∧ ps.length ≤ 12 ∧ ∀ p ∈ ps, inR p.2 = true) ∧ L.length ≤ ps.length ∧ Pu w w'
theorem okV_stop {ps : List (Key × Int)} {i : Nat} {p : Key × Int} (h : ps[i]? = some p) (hp : inR p.2 = false) : okV ps = false := by
  unfold okV
  have : ps.all (fun p => inR p.2) = false := by
    rw [List.all_eq_false]
    exact ⟨p, List.mem_of_getElem? h, by simp [hp]⟩
  simp [this]
set_option maxHeartbeats 4000000 in
set_option maxRecDepth 100000 in
theorem values_any (A : Option Addr) (n c : Nat) (ps : List (Key × Int)) (w0 : World) (hlen : ps.length = n) (h : Sl w0 2 A n c (cat partCells ps)) (hok : PartsOk ps) (hn : n < 1100000) :
    Calls Tryz.prog 17 #[.slice A n c] w0 (ValsPost ps w0) := by
  have HL := Lib.hid hlen
  have Hok := Lib.hid hok
  clear hlen hok
  go_enter Tryz.func17, Tryz.ntmps17
  go_wp2_with fail
  refine (newZ _).mono ?_
  rintro e w1 ⟨mb, rfl, hm0, p1⟩
  go_wp2_with fail
  go_loopw [10] (fun iv wr => ∃ (i : Nat) (r : Option Nat) (L : List (Key × Part)), i ≤ n ∧ iv = .int .i64 (i : Int) ∧ MOZ wr w0.heap.size mb r L ∧ HoldM wr L (valsM (ps.take i)) ∧ L.length ≤ i ∧ Hid (∀ p ∈ ps.take i, inR p.2 = true) ∧ Pu w0 wr) (fun iv _ => n - (intOf iv).toNat)
  case atStart => exact ⟨0, none, [], Nat.zero_le _, rfl, hm0, HoldM.nil _, Nat.le_refl _, Lib.hid (fun p hp => by simp at hp), p1⟩
  case round =>
    obtain ⟨i, r, L, hi, rfl, hm, hh, hll, hall, hP⟩ := hrel
    clear hm0 p1
    by_cases hlt : i < n
    · obtain ⟨p, hp⟩ : ∃ p, ps[i]? = some p := ⟨_, List.getElem?_eq_getElem (by rw [HL.out]; exact hlt)⟩
      have hsl := h.pu hP
      obtain ⟨bp, op, rfl, hbl, hcl⟩ := cat_at partCells_len (by decide) hsl hp
      have x0 : wr.cell? ⟨bp, op + i * 2, none⟩ = some (.string ⟨p.1.toArray⟩) := hcl 0 _ rfl
      have x1 : wr.cell? ⟨bp, op + i * 2 + 1, none⟩ = some (.int .i64 p.2) := hcl 1 _ rfl
      obtain ⟨pk, pz⟩ := p
      dsimp only at x0 x1
      obtain ⟨⟨hz1, hz2⟩, hkl⟩ := Hok.out.each _ (List.mem_of_getElem? hp)
      dsimp only at hz1 hz2 hkl
      have Hp := Lib.hid hp
      obtain ⟨X, hXe⟩ : ∃ X, X = wr.alloc (.cells #[.string ⟨pk.toArray⟩, .int .i64 pz] 113) := ⟨_, rfl⟩
      have pX : Pu wr X := by rw [hXe]; exact (Pu.refl wr).alloc _
      have k6 : Blk X wr.heap.size 113 #[.string ⟨pk.toArray⟩, .int .i64 pz] := by rw [hXe]; exact Blk.new _ _ _
      have HXe := Lib.hid hXe
      have hwi : IntKind.i64.wrap ((i : Int) + 1) = (i : Int) + 1 := IntWalk.i64_in _ (by omega)
      clear hXe hsl hcl hp
      by_cases hq1 : pz < -1099511627776
      · have hd1 : decide (pz < -1099511627776) = true := decide_eq_true hq1
        have hno := Lib.hid (okV_stop Hp.out (by unfold inR; rw [decide_eq_false (show ¬ -1099511627776 ≤ pz by omega)]; rfl))
        have HF := Lib.hid (And.intro (hm.pu pX) (And.intro (hh.pu pX) (hP.trans pX)))
        clear hm hh
        go_wp2
        rw [← HXe.out]
        go_ret2
        exact ⟨mb, r, L, _, by rw [hno.out]; rfl, HF.out.1, HF.out.2.1, (fun e => by rw [hno.out] at e; cases e), by have := HL.out; omega, HF.out.2.2⟩
      have hd1 : decide (pz < -1099511627776) = false := decide_eq_false hq1
      by_cases hq2 : 1099511627776 < pz
      · have hd2 : decide (1099511627776 < pz) = true := decide_eq_true hq2
        have hno := Lib.hid (okV_stop Hp.out (by unfold inR; rw [decide_eq_false (show ¬ pz ≤ 1099511627776 by omega)]; simp))
        have HF := Lib.hid (And.intro (hm.pu pX) (And.intro (hh.pu pX) (hP.trans pX)))
        clear hm hh
        go_wp2
        rw [← HXe.out]
        go_ret2
        exact ⟨mb, r, L, _, by rw [hno.out]; rfl, HF.out.1, HF.out.2.1, (fun e => by rw [hno.out] at e; cases e), by have := HL.out; omega, HF.out.2.2⟩
      have hd2 : decide (1099511627776 < pz) = false := decide_eq_false hq2
      have hallN : Hid (∀ p ∈ ps.take (i + 1), inR p.2 = true) := Lib.hid fun p hp => by
        rw [List.take_add_one, Hp.out] at hp
        rcases List.mem_append.1 hp with h | h
        · exact hall.out p h
        · have e : p = (pk, pz) := by simpa using h
          rw [e]
          unfold inR
          rw [decide_eq_true (show -1099511627776 ≤ pz by omega), decide_eq_true (show pz ≤ 1099511627776 by omega)]
          rfl
      have hnx := Lib.hid (valsM_next Hp.out)
      have hmX := hm.pu pX
      have hhX := hh.pu pX
      have hPX := hP.trans pX
      have Hput := Lib.hid (show ∀ V (hV : Pu X V) (q : Part), Calls Tryz.prog 21 #[.pointer (some ⟨mb, 0, none⟩), .string ⟨pk.toArray⟩, .agg #[.bool q.1, .slice q.2.1 q.2.2.1 q.2.2.2]] V fun e w' => e = .returned (.bool (!there L pk)) ∧ ∃ r', MOZ w' w0.heap.size mb r' (putM L pk q) ∧ (r' = r ∨ ∃ g, r' = some g ∧ V.heap.size ≤ g) ∧ Fr (fun j => j = mb ∨ r = some j) V w' from fun V hV q => putZ w0.heap.size mb r L pk q V (hmX.pu hV) (by omega))
      clear hm hh pX hall
      go_wp2_with fail
      rw [← HXe.out]
      have pd : Pu X X.drew := (Pu.refl X).drew
      refine wp_region_stableA1 6 (fun _ w => Pu X w) (fun _ => Pu) (fun io => match io with | 0 => fun vv_ _ => vv_ = .pointer (some ⟨mb, 0, none⟩) | 1 => fun vv_ _ => vv_ = .pointer (some ⟨wr.heap.size, 0, none⟩) | 2 => fun vv_ _ => vv_ = .string ⟨pk.toArray⟩ | 3 => fun vv_ _ => vv_ = .pointer (some ⟨wr.heap.size, 1, none⟩) | 4 => fun vv_ _ => vv_ = .int .i64 pz | 5 => fun v w => ∃ g A n c, v = .agg #[.bool g, .slice A n c] ∧ ZR w (.agg #[.bool g, .slice A n c]) pz | _ => fun _ _ => True) [some 23, some 24, some 25, some 26, some 27, some 28] (by kernel_rfl) (by kernel_rfl) rfl pd ?_ ?_ ?_ ?_
      · intro ko lst u u' hk hLk hI hR
        exact hI.trans hR
      · intro io ko v u u' hi hk hik h hR0
        have hR := hR0
        match io, hi, hik, h with
        | 0, _, _, h => exact h
        | 1, _, _, h => exact h
        | 2, _, _, h => exact h
        | 3, _, _, h => exact h
        | 4, _, _, h => exact h
        | 5, _, hik, h =>
          replace h : ∃ g A n c, v = .agg #[.bool g, .slice A n c] ∧ ZR u (.agg #[.bool g, .slice A n c]) pz := h
          obtain ⟨g, A, n, c, e, h⟩ := h
          exact ⟨g, A, n, c, e, h.pu hR⟩
        | _ + 6, hi, _, _ => exact absurd hi (by omega)
      · refine StepsS.cons [] rfl (by kernel_rfl) (fun y lst V hLk hV hp K hK => ?_) ?_
        · try dsimp only at hK
          simp only [putsL, upd, Act.put, List.setIfInBounds_toArray, List.set_cons_zero, List.set_cons_succ, Nat.reduceEqDiff, Nat.succ_ne_zero, Nat.reduceAdd, zero_ne_one_, one_ne_zero_, reduceIte] at hK ⊢
          clear hp
          try dsimp only at hV
          go_simp
          exact hK.out _ _ (Pu.refl _) rfl
        refine StepsS.cons [] rfl (by kernel_rfl) (fun y lst V hLk hV hp K hK => ?_) ?_
        · try dsimp only at hK
          simp only [putsL, upd, Act.put, List.setIfInBounds_toArray, List.set_cons_zero, List.set_cons_succ, Nat.reduceEqDiff, Nat.succ_ne_zero, Nat.reduceAdd, zero_ne_one_, one_ne_zero_, reduceIte] at hK ⊢
          clear hp
          try dsimp only at hV
          go_simp
          exact hK.out _ _ (Pu.refl _) rfl
        refine StepsS.cons [1] rfl (by kernel_rfl) (fun y lst V hLk hV hp K hK => ?_) ?_
        · try dsimp only at hK
          simp only [putsL, upd, Act.put, List.setIfInBounds_toArray, List.set_cons_zero, List.set_cons_succ, Nat.reduceEqDiff, Nat.succ_ne_zero, Nat.reduceAdd, zero_ne_one_, one_ne_zero_, reduceIte] at hK ⊢
          have e1 := hp 1 (by simp)
          clear hp
          try dsimp only at hV e1
          generalize y 1 = z1 at hK e1 ⊢
          subst e1
          have z0 := (k6.pu hV).cell 0
          have z1 := (k6.pu hV).cell 1
          go_simp
          exact hK.out _ _ (Pu.refl _) rfl
        refine StepsS.cons [] rfl (by kernel_rfl) (fun y lst V hLk hV hp K hK => ?_) ?_
        · try dsimp only at hK
          simp only [putsL, upd, Act.put, List.setIfInBounds_toArray, List.set_cons_zero, List.set_cons_succ, Nat.reduceEqDiff, Nat.succ_ne_zero, Nat.reduceAdd, zero_ne_one_, one_ne_zero_, reduceIte] at hK ⊢
          clear hp
          try dsimp only at hV
          go_simp
          exact hK.out _ _ (Pu.refl _) rfl
        refine StepsS.cons [3] rfl (by kernel_rfl) (fun y lst V hLk hV hp K hK => ?_) ?_
        · try dsimp only at hK
          simp only [putsL, upd, Act.put, List.setIfInBounds_toArray, List.set_cons_zero, List.set_cons_succ, Nat.reduceEqDiff, Nat.succ_ne_zero, Nat.reduceAdd, zero_ne_one_, one_ne_zero_, reduceIte] at hK ⊢
          have e3 := hp 3 (by simp)
          clear hp
          try dsimp only at hV e3
          generalize y 3 = z3 at hK e3 ⊢
          subst e3
          have z0 := (k6.pu hV).cell 0
          have z1 := (k6.pu hV).cell 1
          go_simp
          exact hK.out _ _ (Pu.refl _) rfl
        refine StepsS.cons [4] rfl (by kernel_rfl) (fun y lst V hLk hV hp K hK => ?_) ?_
        · try dsimp only at hK
          simp only [putsL, upd, Act.put, List.setIfInBounds_toArray, List.set_cons_zero, List.set_cons_succ, Nat.reduceEqDiff, Nat.succ_ne_zero, Nat.reduceAdd, zero_ne_one_, one_ne_zero_, reduceIte] at hK ⊢
          have e4 := hp 4 (by simp)
          clear hp
          try dsimp only at hV e4
          generalize y 4 = z4 at hK e4 ⊢
          subst e4
          go_simp
          go_at_call 30
          refine (from_any pz _ hz1 hz2).mono ?_
          rintro e u1 ⟨v, rfl, h15, p1⟩
          obtain ⟨g, A, n, c, rfl⟩ := h15.shape2
          go_wp2_with fail
          exact hK.out _ _ p1 ⟨g, A, n, c, rfl, h15⟩
        exact StepsS.nil
      · intro y V lst hL hV hp
        have f0 := hp 0 (by decide)
        have f1 := hp 1 (by decide)
        have f2 := hp 2 (by decide)
        have f3 := hp 3 (by decide)
        have f4 := hp 4 (by decide)
        have f5 := hp 5 (by decide)
        clear hp
        try dsimp only at hV f0 f1 f2 f3 f4 f5
        simp only [putsL, upd, Act.put, List.setIfInBounds_toArray, List.set_cons_zero, List.set_cons_succ, Nat.reduceEqDiff, Nat.succ_ne_zero, Nat.reduceAdd, zero_ne_one_, one_ne_zero_, reduceIte]
        generalize y 0 = z0 at f0 ⊢
        generalize y 1 = z1 at f1 ⊢
        generalize y 2 = z2 at f2 ⊢
        generalize y 3 = z3 at f3 ⊢
        generalize y 4 = z4 at f4 ⊢
        generalize y 5 = z5 at f5 ⊢
        subst f0
        subst f1
        subst f2
        subst f3
        subst f4
        obtain ⟨g5, A5, n5, c5, rfl, h5⟩ := f5
        have hhV := hhX.pu hV
        have hmV := hmX.pu hV
        go_wp2_with fail
        refine (Hput.out _ hV (g5, A5, n5, c5)).mono ?_
        rintro e u2 ⟨rfl, r', hm2, hr', hF2⟩
        have hh2 := (hhV.frT hF2 hmV.typed).put (k := pk) (q := (g5, A5, n5, c5)) (h5.frT hF2 hmV.typed)
        have hP2 := (hPX.trans hV).step hF2 (fun j hj => by
            rcases hj with e' | e'
            · rw [e']
              exact hmV.lt.1
            · exact (hmV.row j e').1)
        have hl2 := putM_len L pk (g5, A5, n5, c5)
        have HF := Lib.hid (And.intro hm2 (And.intro hh2 hP2))
        clear hm2 hh2 hP2 hF2 hhV hmV h5
        go_wp2
        go_roundw
        case rel => exact ⟨i + 1, r', putM L pk (g5, A5, n5, c5), by omega, by go_num, HF.out.1, by rw [hnx.out]; exact HF.out.2.1, by omega, hallN, HF.out.2.2⟩
        case measure => simp [intOf]; omega
    · obtain rfl : i = n := by omega
      have htk : ps.take i = ps := List.take_of_length_le (by rw [HL.out]; exact Nat.le_refl _)
      rw [htk] at hh hall
      have hokv : okV ps = decide (i ≤ 12) := by
        unfold okV
        rw [HL.out, List.all_eq_true.2 hall.out, Bool.and_true]
      have HF := Lib.hid (And.intro hm (And.intro hh (And.intro hP hokv)))
      clear hm hh hokv htk
      by_cases h12 : i ≤ 12
      · have hd : decide ((i : Int) ≤ 12) = true := by simp; omega
        go_wp2
        go_ret2
        exact ⟨mb, r, L, _, by rw [HF.out.2.2.2, decide_eq_true h12]; rfl, HF.out.1, HF.out.2.1, (fun _ => ⟨rfl, by rw [HL.out]; exact h12, hall.out⟩), by have := HL.out; omega, HF.out.2.2.1⟩
      · have hd : decide ((i : Int) ≤ 12) = false := by simp; omega
        go_wp2
        go_ret2
        exact ⟨mb, r, L, _, by rw [HF.out.2.2.2, decide_eq_false h12]; rfl, HF.out.1, HF.out.2.1, (fun e => by rw [HF.out.2.2.2, decide_eq_false h12] at e; cases e), by have := HL.out; omega, HF.out.2.2.1⟩
end
section
set_option linter.unusedVariables false
open Go.RowKit
theorem there_look {P : Type} {l : List (Key × P)} (hr : Rise l) (k : Key) : there l k = (lookM l k).isSome := by
  unfold lookM
  cases h : there l k with
  | false => rfl
  | true =>
    obtain ⟨v, hv⟩ := (there_iff hr k).1 h
    rw [if_pos rfl, hv]
    rfl
theorem there_put {P : Type} {l : List (Key × P)} {k : Key} {v : P} (hr : Rise l) (hr2 : Rise (putM l k v)) {j : Key} (h : there (putM l k v) j = true) (hj : j ≠ k) : there l j = true := by
  rw [there_look hr2, look_put hr, if_neg hj] at h
  rw [there_look hr]
  exact h
theorem there_put_self {P : Type} {l : List (Key × P)} {k : Key} {v : P} (hr : Rise l) (hr2 : Rise (putM l k v)) : there (putM l k v) k = true := by
  rw [there_look hr2, look_put hr, if_pos rfl]
  rfl
theorem evalM_some {gs : List (Key × Int)} : ∀ (fs : List (Key × Int)) (a z : Int), evalM gs a fs = some z → (∀ f ∈ fs, there gs f.1 = true) ∧ z = a + worth (factor gs) fs
  | [], a, z, h => by
    have h' : some a = some z := h
    exact ⟨fun f hf => (by cases hf), by rw [Option.some.inj h', worth, Int.add_zero]⟩
  | f :: fs, a, z, h => by
    unfold evalM at h
    split at h
    · rename_i ht
      obtain ⟨h1, h2⟩ := evalM_some fs _ z h
      refine ⟨fun g hg => ?_, ?_⟩
      · rcases List.mem_cons.1 hg with rfl | hg
        · exact ht
        · exact h1 g hg
      · rw [h2, worth, Int.mul_comm f.2]
        omega
    · cases h
theorem evalM_of {gs : List (Key × Int)} : ∀ (fs : List (Key × Int)) (a : Int), (∀ f ∈ fs, there gs f.1 = true) → evalM gs a fs = some (a + worth (factor gs) fs)
  | [], a, _ => by rw [worth, Int.add_zero]; rfl
  | f :: fs, a, h => by
    unfold evalM
    rw [if_pos (h f (List.mem_cons_self ..)), evalM_of fs _ (fun g hg => h g (List.mem_cons_of_mem _ hg)), worth, Int.mul_comm f.2, Int.add_assoc]
theorem put_eval {vs fs gs : List (Key × Int)} {k : Key} {r2 x rest z : Int} (hv : Rise vs) (hv2 : Rise (putM vs k x)) (hf : Rise fs) (hz : NZ fs) (hg : Rise gs) (h1 : evalM vs r2 gs = some x) (h2 : evalM (putM vs k x) rest fs = some z) :
    evalM vs (rest + r2 * factor fs k) (subT fs k gs) = some z := by
  obtain ⟨a1, a2⟩ := evalM_some _ _ _ h1
  obtain ⟨b1, b2⟩ := evalM_some _ _ _ h2
  rw [evalM_of]
  · congr 1
    have h3 := putT_worth (v := factor vs) (u := factor (putM vs k x)) hf k r2 x (gs := gs) a2 (fun j => factor_put hv k x j)
    have h4 : subT fs k gs = putT fs k gs := rfl
    rw [h4, b2, ← h3, Int.mul_comm r2]
    omega
  · intro f hf'
    rcases putT_names hf hz hg k f hf' with ⟨hne, y, hy⟩ | ⟨y, hy⟩
    · exact there_put hv hv2 (b1 (f.1, y) hy) hne
    · exact a1 (f.1, y) hy
theorem put_meets {vs gs : List (Key × Int)} {k : Key} {r2 x : Int} (hv : Rise vs) (hv2 : Rise (putM vs k x)) (hg : Rise gs) (h1 : evalM vs r2 gs = some x) : ∀ (l : List RowM) (b want : Bool), (∀ r ∈ l, Rise r.fs ∧ NZ r.fs) →
    meetsM (putM vs k x) b l = some want → meetsM vs b (l.map (putR k r2 gs)) = some want
  | [], b, want, _, h => h
  | r :: l, b, want, hl, h => by
    unfold meetsM at h
    cases hz : evalM (putM vs k x) r.rest r.fs with
    | none => rw [hz] at h; cases h
    | some z =>
      rw [hz] at h
      have hr := hl r (List.mem_cons_self ..)
      have h3 := put_eval hv hv2 hr.1 hr.2 hg h1 hz
      have ih := put_meets hv hv2 hg h1 l (b && okS z r.eq) want (fun y hy => hl y (List.mem_cons_of_mem _ hy)) h
      rw [List.map_cons]
      unfold meetsM
      show (evalM vs (putR k r2 gs r).rest (putR k r2 gs r).fs).bind _ = _
      rw [show evalM vs (putR k r2 gs r).rest (putR k r2 gs r).fs = some z from h3]
      exact ih
theorem addM_upto {n : Int} {M : Nat} : ∀ (gs fs : List (Key × Int)) (K : Nat), Upto K fs → (∀ g ∈ gs, (g.2 * n).natAbs ≤ M) → Upto (K + gs.length * M) (addM fs gs n)
  | [], fs, K, h, _ => by
    rw [List.length_nil, Nat.zero_mul, Nat.add_zero]
    exact h
  | g :: gs, fs, K, h, hM => by
    have h1 := addStep_upto h (hM g (List.mem_cons_self ..))
    have h2 := addM_upto gs _ (K + M) h1 (fun x hx => hM x (List.mem_cons_of_mem _ hx))
    rw [List.length_cons, Nat.succ_mul]
    have e : K + (gs.length * M + M) = K + M + gs.length * M := by omega
    rw [e]
    exact h2
theorem vals_upto {ps : List (Key × Int)} (h : ∀ p ∈ ps, inR p.2 = true) : Upto 1099511627776 (valsM ps) := by
  have gen : ∀ (l acc : List (Key × Int)), Upto 1099511627776 acc → (∀ p ∈ l, inR p.2 = true) → Upto 1099511627776 (l.foldl (fun m p => putM m p.1 p.2) acc) := by
    intro l
    induction l with
    | nil => intro acc ha _; exact ha
    | cons p l ih =>
      intro acc ha hl
      refine ih _ (fun f hf => ?_) (fun q hq => hl q (List.mem_cons_of_mem _ hq))
      rcases mem_putM hf with rfl | hf
      · exact inR_abs (hl p (List.mem_cons_self ..))
      · exact ha f hf
  exact gen ps [] (Upto.nil _) h
def GX : Nat := 1099511627776 + 1100000 * (1099511627776 * KK)
def K2c : Nat := KK + 1 * KK + 12 * (KK * KK)
def R2c : Nat := 1099511627776 + 1099511627776 * KK
theorem sub_upto {fs gs : List (Key × Int)} (h1 : Upto KK fs) (h2 : Upto KK gs) (hl : gs.length ≤ 12) (k : Key) : Upto K2c (subT fs k gs) := by
  have hf := h1.factor k
  have a := addM_upto (n := -(factor fs k)) (M := KK) [(k, 1)] fs KK h1 (fun g hg => by
    rw [List.mem_singleton.1 hg, Int.one_mul, Int.natAbs_neg]
    exact hf)
  have b := addM_upto (n := factor fs k) (M := KK * KK) gs _ _ a (fun g hg => by
    rw [Int.natAbs_mul]
    exact Nat.mul_le_mul (h2 g hg) hf)
  refine b.le ?_
  unfold K2c
  have := Nat.mul_le_mul_right (KK * KK) hl
  simp only [List.length_singleton]
  omega
theorem rest_put {a b f : Int} (h1 : a.natAbs ≤ 1099511627776) (h2 : b.natAbs ≤ 1099511627776) (h3 : f.natAbs ≤ KK) : (a + b * f).natAbs ≤ R2c := by
  have h4 : (b * f).natAbs ≤ 1099511627776 * KK := by
    rw [Int.natAbs_mul]
    exact Nat.mul_le_mul h2 h3
  unfold R2c
  omega
theorem small10 {n : Nat} (h : n < 4294967296 ^ 10) : n < 4294967296 ^ 30000 := up_from (n := n) (a := 10) (b := 30000) h (by decide)
theorem ev_t {rest : Int} {fs vs : List (Key × Int)} (hr : rest.natAbs ≤ 1099511627776) (h1 : Upto KK fs) (h2 : Upto 1099511627776 vs) : EvalOk 1099511627776 KK 1099511627776 rest fs vs :=
  ⟨hr, h1, h2, small10 (by decide), small10 (by decide), small10 (by decide)⟩
theorem ev_a {rest : Int} {fs vs : List (Key × Int)} (hr : rest.natAbs ≤ 1099511627776) (h1 : Upto KK fs) (h2 : Upto GX vs) : EvalOk 1099511627776 KK GX rest fs vs :=
  ⟨hr, h1, h2, small10 (by decide), small10 (by decide), small10 (by decide)⟩
theorem ev_p {rest : Int} {fs vs : List (Key × Int)} (hr : rest.natAbs ≤ R2c) (h1 : Upto K2c fs) (h2 : Upto 1099511627776 vs) : EvalOk R2c K2c 1099511627776 rest fs vs :=
  ⟨hr, h1, h2, small10 (by decide), small10 (by decide), small10 (by decide)⟩
theorem put_ok {fs gs : List (Key × Int)} {r1 r2 : Int} (h1 : Upto KK fs) (h2 : Upto KK gs) (hl1 : fs.length ≤ 12) (hl2 : gs.length ≤ 12) (hr1 : r1.natAbs ≤ 1099511627776) (hr2 : r2.natAbs ≤ 1099511627776) : PutOk KK KK fs gs r1 r2 :=
  ⟨h1, h2, by omega, small10 (by decide), small10 (by decide), small10 (by decide), rest_small hr1, rest_small hr2⟩
theorem x_bound {rest x : Int} {fs vs : List (Key × Int)} (hr : rest.natAbs ≤ 1099511627776) (h1 : Upto KK fs) (hl : fs.length ≤ 12) (h2 : Upto 1099511627776 vs) (h : evalM vs rest fs = some x) : x.natAbs ≤ GX := by
  have h3 := evalM_le h2 fs rest x h1 h
  have h4 : fs.length * (1099511627776 * KK) ≤ 1100000 * (1099511627776 * KK) := Nat.mul_le_mul_right _ (by omega)
  unfold GX
  omega
theorem put_upto {vs : List (Key × Int)} {k : Key} {x : Int} (h : Upto 1099511627776 vs) (hx : x.natAbs ≤ GX) : Upto GX (putM vs k x) := fun f hf => by
  rcases mem_putM hf with rfl | hf
  · exact hx
  · exact Nat.le_trans (h f hf) (by unfold GX; omega)
theorem eval_post {o : Option Int} {e : Ending} {w : World} (h : EvalPost o e w) (hb : ∀ z, o = some z → z.natAbs ≤ GX) :
    ∃ (eo x : Int) (g : Bool) (A : Option Addr) (n c : Nat), e = .returned (.tuple #[.agg #[.bool g, .slice A n c], .int .i64 eo]) ∧ ZR w (.agg #[.bool g, .slice A n c]) x ∧ x.natAbs ≤ GX ∧ ((eo = 0 ∧ o = some x) ∨ eo = 31) := by
  rcases h with ⟨z, v, h1, rfl, h2⟩ | ⟨h1, rfl⟩
  · obtain ⟨g, A, n, c, rfl⟩ := h2.shape2
    exact ⟨0, z, g, A, n, c, rfl, h2, hb z h1, .inl ⟨rfl, h1⟩⟩
  · exact ⟨31, 0, false, none, 0, 0, rfl, ZR.zero w, Nat.zero_le _, .inr rfl⟩
theorem meets_post {o : Option Bool} {e : Ending} (h : MeetsPost o e) : ∃ (b : Bool) (fo : Int), e = .returned (.tuple #[.bool b, .int .i64 fo]) ∧ ((fo = 0 ∧ o = some b) ∨ (fo = 31 ∧ o = none)) := by
  rcases h with ⟨b, h1, rfl⟩ | ⟨h1, rfl⟩
  · exact ⟨b, 0, rfl, .inl ⟨rfl, h1⟩⟩
  · exact ⟨false, 31, rfl, .inr ⟨rfl, h1⟩⟩
end
section
set_option linter.unusedVariables false
set_option linter.unusedSimpArgs false
open Go.RowKit
set_option maxHeartbeats 8000000 in
set_option maxRecDepth 100000 in
theorem puts_walk (A : Option Addr) (n c : Nat) (Q : List RawL) (ls : List LineM) (k : Key) (As : Option Addr) (cs : Nat) (pss : List (Key × Int)) (rest : Int) (An : Option Addr) (nn cn : Nat) (nums : List (Key × Int)) (w0 : World)
    (h : SlL w0 A n c Q) (hh : HoldL w0 Q ls) (hn : n ≤ 9223372036854775807) (hkl : k.length ≤ 9223372036854775807)
    (hs : Sl w0 2 As pss.length cs (cat partCells pss)) (hso : PartsOk pss) (hr1 : -9223372036854775808 ≤ rest) (hr2 : rest ≤ 9223372036854775807)
    (hnl : nums.length = nn) (hns : Sl w0 2 An nn cn (cat partCells nums)) (hno : PartsOk nums) (hnb : nn < 1099990) :
    Calls Tryz.prog 5 #[.slice A n c, .string ⟨k.toArray⟩, .agg #[.slice As pss.length cs, .int .i64 rest], .slice An nn cn] w0 fun e w' => e = .returned (.bool true) ∧ Pu w0 w' := by
  obtain ⟨W, hWe⟩ : ∃ W, W = w0.alloc (.cells #[.slice As pss.length cs, .int .i64 rest] 49) := ⟨_, rfl⟩
  have pW : Pu w0 W := by rw [hWe]; exact (Pu.refl w0).alloc _
  have k6 : Blk W w0.heap.size 49 #[.slice As pss.length cs, .int .i64 rest] := by rw [hWe]; exact Blk.new _ _ _
  have HWe := Lib.hid hWe
  have Hs := Lib.hid (And.intro hs hso)
  have Hns := Lib.hid (And.intro hnl (And.intro hns hno))
  have H0 := Lib.hid (And.intro h hh)
  clear hWe hs hso hnl hns hno h hh
  go_enter Tryz.func5, Tryz.ntmps5
  go_wp2_with fail
  rw [← HWe.out]
  refine (anchor16_any _).mono ?_
  rintro e w1 ⟨rfl, p1⟩
  have P1 := pW.trans p1
  go_wp2_with fail
  refine (lboth_any A n c Q ls w1 (H0.out.1.pu P1) (H0.out.2.pu P1) hn).mono ?_
  rintro e w2 ⟨A1, n1, c1, A2, n2, c2, ok, L, rfl, hok, hyes, p2⟩
  have P2 := P1.trans p2
  have k62 := k6.pu (p1.trans p2)
  have z0 := k62.cell 0
  have z1 := k62.cell 1
  have Hyes := Lib.hid (And.intro hok hyes)
  clear hok hyes p1 p2
  go_wp2_with fail
  refine (both_any pss rest As cs w2 (Hs.out.1.pu P2) hr1 hr2 Hs.out.2.each Hs.out.2.len).mono ?_
  rintro e w3 ⟨v, okt, At, nx, ct, Af, cf, ⟨rs, rA, rn, rc⟩, gs, rfl, hkt, htx, hgs, hnx, htr, p3⟩
  obtain ⟨g9, A9, n9, c9, m9, rfl⟩ := htx.tm.shape
  unfold tval
  obtain ⟨V, hVe⟩ : ∃ V, V = (w3.alloc (.cells #[.bool g9, .slice A9 n9 c9, .pointer m9] 33)).alloc (.cells #[.slice At nx ct, .slice Af nx cf, .int .i64 rs, .slice rA rn rc] 56) := ⟨_, rfl⟩
  have p3V : Pu w3 V := by rw [hVe]; exact ((Pu.refl w3).alloc _).alloc _
  have k12 : Blk V w3.heap.size 33 #[.bool g9, .slice A9 n9 c9, .pointer m9] := by rw [hVe]; exact (Blk.new w3 _ _).alloc _
  have htV := htx.tm.pu p3V
  have PV := P2.trans (p3.trans p3V)
  have p2V := p3.trans p3V
  have Ht := Lib.hid (And.intro hkt (And.intro hgs htV))
  have HVe := Lib.hid hVe
  have hval := values_any An nn cn nums V Hns.out.1 (Hns.out.2.1.pu PV) Hns.out.2.2 (by omega)
  rw [hVe] at hval
  have Hval := Lib.hid hval
  clear hVe htx hkt hgs hnx htr p3 p3V z0 z1 k62 k6 htV hval
  go_wp2_with fail
  refine Hval.out.mono ?_
  rintro e w4 hvp
  rw [← HVe.out] at hvp
  obtain ⟨b, r, Lv, vs, rfl, hmo, hho, hyv, hlv, p4⟩ := hvp
  have P4 := PV.trans p4
  obtain ⟨isv, hisv⟩ : ∃ isv, okV nums = isv := ⟨_, rfl⟩
  rw [hisv] at hyv ⊢
  have Hyv := Lib.hid (And.intro hyv hlv)
  clear hyv hisv hlv Hval
  cases ok with
  | false =>
    clear Hyes Ht Hyv
    go_wp2
    go_ret
    exact ⟨rfl, P4⟩
  | true =>
  cases isv with
  | false =>
    clear Hyes Ht Hyv
    go_wp2
    go_ret
    exact ⟨rfl, P4⟩
  | true =>
  cases okt with
  | false =>
    clear Hyes Ht Hyv
    go_wp2
    go_ret
    exact ⟨rfl, P4⟩
  | true =>
  by_cases hk40 : 40 < k.length
  · have hd : decide ((40 : Int) < (k.length : Int)) = true := by simp; omega
    clear Hyes Ht Hyv
    go_wp2
    go_ret
    exact ⟨rfl, P4⟩
  have hd : decide ((40 : Int) < (k.length : Int)) = false := by simp; omega
  obtain ⟨nm, hnm⟩ : ∃ nm, namedM k = nm := ⟨_, rfl⟩
  have hcall := fun U => named_any k U hkl
  rw [hnm] at hcall
  have Hcall := Lib.hid hcall
  clear hcall hnm
  go_wp2_with fail
  refine (Hcall.out _).mono ?_
  rintro e w5 ⟨rfl, p5⟩
  clear Hcall
  cases nm with
  | false =>
    clear Hyes Ht Hyv
    go_wp2
    go_ret
    exact ⟨rfl, P4.trans p5⟩
  | true =>
  -- everything fits
  obtain ⟨hn1, hn14, hS, hX⟩ := Hyes.out.2 (by simp)
  obtain ⟨hvs, hnum12, hinr⟩ := Hyv.out.1 (by simp)
  have hlv := Hyv.out.2
  have hgsum := Ht.out.2.1 (by simp)
  have htM := Ht.out.2.2
  have hokt : okM pss rest = true := Ht.out.1.symm
  have hokl : okL 14 ls = true := Hyes.out.1.symm
  subst hn1
  have p45 : Pu V w5 := p4.trans p5
  have p25 : Pu w2 w5 := p2V.trans p45
  obtain ⟨l, hle⟩ : ∃ l, l = ls.map rowOf := ⟨_, rfl⟩
  have hRV : HoldR V L l := by rw [hle]; exact hX.hold.pu p2V
  have hSV := hS.pu p2V
  have hR := hRV.pu p45
  have hSl := hSV.pu p45
  have hrows : ∀ r ∈ l, Upto KK r.fs ∧ r.fs.length ≤ 12 ∧ r.rest.natAbs ≤ 1099511627776 ∧ Rise r.fs ∧ NZ r.fs := fun r hr => by
    rw [hle] at hr
    obtain ⟨x, hx, rfl⟩ := List.mem_map.1 hr
    have hk := (okL_in hokl).2 x hx
    exact ⟨sum_upto hk, sum_len hk, (okM_in hk).2.1, sumM_rise _, sumM_nz _⟩
  have hgU : Upto KK gs := by rw [hgsum]; exact sum_upto hokt
  have hgL : gs.length ≤ 12 := by rw [hgsum]; exact sum_len hokt
  have hgR : Rise gs := by rw [hgsum]; exact sumM_rise _
  have hrest := (okM_in hokt).2.1
  have hvU : Upto 1099511627776 vs := by rw [hvs]; exact vals_upto hinr
  have hvR : Rise vs := rise_keys hho.keys hmo.mr.rise
  have htm5 := htM.pu p45
  have hmo5 := hmo.pu p5
  have hho5 := hho.pu p5
  have hVM : VM w5 b vs := ⟨Lv, hmo5.mr, hho5⟩
  have P5 := P4.trans p5
  have Heval := Lib.hid (teval_any _ rest gs vs b 1099511627776 KK 1099511627776 w5 htm5 hVM (ev_t hrest hgU hvU))
  have HR := Lib.hid hrows
  have HG := Lib.hid (And.intro hgU (And.intro hgL (And.intro hgR (And.intro hrest (And.intro hvU (And.intro hvR hlv))))))
  have k125 := k12.pu p45
  have y0 := k125.cell 0
  have y1 := k125.cell 1
  have y2 := k125.cell 2
  have hbV : V.heap.size ≤ w5.heap.size := p45.size
  clear hle hrows hgU hgL hgR hvU hgsum hokt hokl hvs hinr Hyes Ht Hyv hS hX hmo hho k12 htM p2V p25 p4 p5 hd hnum12 hlv hVM
  go_wp2_with fail
  refine Heval.out.mono ?_
  rintro e w6 ⟨hpost, p6⟩
  obtain ⟨eo, x, gx, Ax, nxx, cx, rfl, hzx, hxb, hex⟩ := eval_post hpost (fun z hz => x_bound HG.out.2.2.2.1 HG.out.1 HG.out.2.1 HG.out.2.2.2.2.1 hz)
  obtain ⟨V7, hV7⟩ : ∃ V7, V7 = w6.alloc (.cells #[.bool gx, .slice Ax nxx cx] 30) := ⟨_, rfl⟩
  have p7 : Pu w6 V7 := by rw [hV7]; exact (Pu.refl w6).alloc _
  have k17 : Blk V7 w6.heap.size 30 #[.bool gx, .slice Ax nxx cx] := by rw [hV7]; exact Blk.new _ _ _
  have p57 := p6.trans p7
  have Hex := Lib.hid (And.intro hxb hex)
  have hzx7 := hzx.pu p7
  have u0 := (k125.pu p57).cell 0
  have u1 := (k125.pu p57).cell 1
  have u2 := (k125.pu p57).cell 2
  have hrp := rput_any A1 n1 c1 L l k _ rest gs KK KK V7 (hSl.pu p57) (hR.pu p57) (htm5.pu p57) (fun r hr => put_ok (HR.out r hr).1 HG.out.1 (HR.out r hr).2.1 HG.out.2.1 (HR.out r hr).2.2.1 HG.out.2.2.2.1) (by omega)
  rw [hV7] at hrp u0 u1 u2
  have Hrp := Lib.hid hrp
  have HV7 := Lib.hid hV7
  clear hrp hV7 hpost hxb hex hzx Heval p6 p7 y0 y1 y2
  go_wp2_with fail
  refine Hrp.out.mono ?_
  rintro e w8 ⟨A', c', L', rfl, ho8, hh8, p8⟩
  rw [← HV7.out] at p8 ho8 hh8
  have p58 := p57.trans p8
  have hm1 := meets_any A' n1 c' L' (l.map (putR k rest gs)) vs b R2c K2c 1099511627776 w8 (Sl.of_own ho8) hh8.hold ⟨Lv, (hmo5.pu p58).mr, hho5.pu p58⟩ (fun r hr => by
    obtain ⟨y, hy, rfl⟩ := List.mem_map.1 hr
    have hy' := HR.out y hy
    exact ev_p (rest_put hy'.2.2.1 HG.out.2.2.2.1 (hy'.1.factor k)) (sub_upto hy'.1 HG.out.1 HG.out.2.1 k) HG.out.2.2.2.2.1) (by omega)
  have Hm1 := Lib.hid hm1
  clear hm1 ho8 hh8 Hrp u0 u1 u2
  go_wp2_with fail
  refine Hm1.out.mono ?_
  rintro e w9 ⟨hpost, p9⟩
  obtain ⟨got, fo, rfl, hgot⟩ := meets_post hpost
  have Hgot := Lib.hid hgot
  clear hpost hgot Hm1
  have p59 := p58.trans p9
  have k179 := k17.pu (p8.trans p9)
  have t0 := k179.cell 0
  have t1 := k179.cell 1
  have hput := putZ V.heap.size b r Lv k (gx, Ax, nxx, cx) w9 (hmo5.pu p59) (by have := HG.out.2.2.2.2.2.2; have := Hns.out.1; omega)
  have Hput := Lib.hid hput
  clear hput
  go_wp2_with fail
  refine Hput.out.mono ?_
  rintro e w10 ⟨rfl, r', hmo10, hr', hF10⟩
  have hty := (hmo5.pu p59).typed
  have hho10 := ((hho5.pu p59).frT hF10 hty).put (k := k) (q := (gx, Ax, nxx, cx)) ((hzx7.pu (p8.trans p9)).frT hF10 hty)
  have hlt5 := (hmo5.pu p59).lt
  have hrw5 := (hmo5.pu p59).row
  have pV10 : Pu V w10 := (p45.trans p59).step hF10 (fun j hj => by
    rcases hj with e' | e'
    · rw [e']
      exact hlt5.1
    · exact (hrw5 j e').1)
  have Hin := Lib.hid (And.intro hmo10 (And.intro hho10 pV10))
  clear hmo10 hho10 hF10 hr' hty hlt5 hrw5 Hput t0 t1
  have hvR2 : Rise (putM vs k x) := rise_keys Hin.out.2.1.keys Hin.out.1.mr.rise
  have hm2 := meets_any A1 n1 c1 L l (putM vs k x) b 1099511627776 KK GX w10 (hSV.pu Hin.out.2.2) (hRV.pu Hin.out.2.2) ⟨_, Hin.out.1.mr, Hin.out.2.1⟩ (fun y hy => ev_a (HR.out y hy).2.2.1 (HR.out y hy).1 (put_upto HG.out.2.2.2.2.1 Hex.out.1)) (by omega)
  have Hm2 := Lib.hid hm2
  have Hpm := Lib.hid (fun hx want hw => put_meets (k := k) (r2 := rest) HG.out.2.2.2.2.2.1 hvR2 HG.out.2.2.1 hx l true want (fun y hy => (HR.out y hy).2.2.2) hw)
  clear hm2 hvR2
  go_wp2_with fail
  refine Hm2.out.mono ?_
  rintro e w11 ⟨hpost, p11⟩
  obtain ⟨want, go, rfl, hwant⟩ := meets_post hpost
  have pE : Pu w0 w11 := PV.trans (Hin.out.2.2.trans p11)
  clear hpost Hm2
  rcases Hex.out.2 with ⟨rfl, hx⟩ | rfl
  · rcases hwant with ⟨rfl, hw⟩ | ⟨rfl, hw⟩
    · have hpm := Hpm.out hx want hw
      rcases Hgot.out with ⟨rfl, hg⟩ | ⟨rfl, hg⟩
      · rw [hpm] at hg
        have e : want = got := Option.some.inj hg
        subst e
        clear hpm hg hw hx Hpm
        cases want <;>
        · go_wp2
          go_ret
          exact ⟨rfl, pE⟩
      · rw [hpm] at hg
        cases hg
    · clear hw hx Hpm
      go_wp2
      go_ret
      exact ⟨rfl, pE⟩
  · clear hwant Hpm
    go_wp2
    go_ret
    exact ⟨rfl, pE⟩
end
end Go.Proofs.YtckfnbckoclhpaaGreatDoor
