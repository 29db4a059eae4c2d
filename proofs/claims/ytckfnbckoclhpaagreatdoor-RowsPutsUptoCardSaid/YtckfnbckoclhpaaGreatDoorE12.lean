/- Terms: names with factors in memory and as lists. Terms: Num, Name, pairs, Rest, Factor, Names. Terms: sums as lists. Terms: sums as lists, told by their factors. Plain lemmas. -/
import Derived.Test.YtckfnbckoclhpaaGreatDoorE11
import Derived.Test.YtckfnbckoclhpaaGreatDoorC01
namespace Go.Proofs.YtckfnbckoclhpaaGreatDoor
section
set_option linter.unusedVariables false
open Go.RowKit
def HoldM (w : World) (L : List (Key × Part)) (fs : List (Key × Int)) : Prop :=
  L.length = fs.length ∧ ∀ (i : Nat) (p : Key × Part) (f : Key × Int), L[i]? = some p → fs[i]? = some f → p.1 = f.1 ∧ ZR w p.2.val f.2
theorem HoldM.nil (w : World) : HoldM w [] [] := ⟨rfl, fun i p f h => by simp at h⟩
theorem HoldM.pu {w w' : World} {L : List (Key × Part)} {fs : List (Key × Int)} (h : HoldM w L fs) (p : Pu w w') : HoldM w' L fs :=
  ⟨h.1, fun i q f h1 h2 => ⟨(h.2 i q f h1 h2).1, (h.2 i q f h1 h2).2.pu p⟩⟩
theorem HoldM.frT {S : Nat → Prop} {w w' : World} {L : List (Key × Part)} {fs : List (Key × Int)} (h : HoldM w L fs) (hf : Fr S w w') (hs : ∀ g, S g → ∃ t cs fz, w.heap[g]? = some (.cells cs t fz) ∧ t ≠ 169) : HoldM w' L fs :=
  ⟨h.1, fun i q f h1 h2 => ⟨(h.2 i q f h1 h2).1, (h.2 i q f h1 h2).2.frT hf hs⟩⟩
section
variable {P Q : Type}
theorem place_keys : ∀ (L : List (Key × P)) (fs : List (Key × Q)) (k : Key), L.map (·.1) = fs.map (·.1) → place L k = place fs k
  | [], [], k, _ => rfl
  | [], f :: fs, k, h => by simp at h
  | p :: L, [], k, h => by simp at h
  | p :: L, f :: fs, k, h => by
    simp only [List.map_cons, List.cons.injEq] at h
    have ih := place_keys L fs k h.2
    unfold place at *
    rw [List.countP_cons, List.countP_cons, ih, h.1]
theorem there_keys : ∀ (L : List (Key × P)) (fs : List (Key × Q)) (k : Key), L.map (·.1) = fs.map (·.1) → there L k = there fs k
  | [], [], k, _ => rfl
  | [], f :: fs, k, h => by simp at h
  | p :: L, [], k, h => by simp at h
  | p :: L, f :: fs, k, h => by
    simp only [List.map_cons, List.cons.injEq] at h
    have ih := there_keys L fs k h.2
    unfold there at *
    rw [List.any_cons, List.any_cons, ih, h.1]
theorem rise_keys {L : List (Key × P)} {fs : List (Key × Q)} (h : L.map (·.1) = fs.map (·.1)) (hr : Rise L) : Rise fs := by
  have h1 : (L.map (·.1)).Pairwise (fun a b : Key => a < b) := List.pairwise_map.2 hr
  rw [h] at h1
  exact List.pairwise_map.1 h1
end
theorem HoldM.keys {w : World} {L : List (Key × Part)} {fs : List (Key × Int)} (h : HoldM w L fs) : L.map (·.1) = fs.map (·.1) := by
  refine List.ext_getElem? fun i => ?_
  rw [List.getElem?_map, List.getElem?_map]
  rcases Nat.lt_or_ge i L.length with hi | hi
  · rw [List.getElem?_eq_getElem hi, List.getElem?_eq_getElem (by rw [← h.1]; exact hi)]
    have := (h.2 i _ _ (List.getElem?_eq_getElem hi) (List.getElem?_eq_getElem (by rw [← h.1]; exact hi))).1
    simp [this]
  · rw [List.getElem?_eq_none hi, List.getElem?_eq_none (by rw [← h.1]; exact hi)]
    rfl
theorem HoldM.take {w : World} {L : List (Key × Part)} {fs : List (Key × Int)} (h : HoldM w L fs) (i : Nat) : HoldM w (L.take i) (fs.take i) := by
  refine ⟨by simp [h.1], fun j p f h1 h2 => ?_⟩
  rw [List.getElem?_take] at h1 h2
  split at h1
  · rename_i hj
    rw [if_pos hj] at h2
    exact h.2 j p f h1 h2
  · cases h1
theorem HoldM.drop {w : World} {L : List (Key × Part)} {fs : List (Key × Int)} (h : HoldM w L fs) (i : Nat) : HoldM w (L.drop i) (fs.drop i) := by
  refine ⟨by simp [h.1], fun j p f h1 h2 => ?_⟩
  rw [List.getElem?_drop] at h1 h2
  exact h.2 _ p f h1 h2
theorem HoldM.append {w : World} {L L' : List (Key × Part)} {fs fs' : List (Key × Int)} (h : HoldM w L fs) (h' : HoldM w L' fs') : HoldM w (L ++ L') (fs ++ fs') := by
  refine ⟨by simp [h.1, h'.1], fun j p f h1 h2 => ?_⟩
  rcases Nat.lt_or_ge j L.length with hj | hj
  · rw [List.getElem?_append_left hj] at h1
    rw [List.getElem?_append_left (by rw [← h.1]; exact hj)] at h2
    exact h.2 j p f h1 h2
  · rw [List.getElem?_append_right hj] at h1
    rw [List.getElem?_append_right (by rw [← h.1]; exact hj), ← h.1] at h2
    exact h'.2 _ p f h1 h2
theorem HoldM.cons {w : World} {L : List (Key × Part)} {fs : List (Key × Int)} {k : Key} {q : Part} {z : Int} (h : HoldM w L fs) (hq : ZR w q.val z) : HoldM w ((k, q) :: L) ((k, z) :: fs) := by
  refine ⟨by simp [h.1], fun j p f h1 h2 => ?_⟩
  cases j with
  | zero =>
    simp at h1 h2
    subst h1 h2
    exact ⟨rfl, hq⟩
  | succ j => exact h.2 j p f (by simpa using h1) (by simpa using h2)
theorem HoldM.put {w : World} {L : List (Key × Part)} {fs : List (Key × Int)} {k : Key} {q : Part} {z : Int} (h : HoldM w L fs) (hq : ZR w q.val z) : HoldM w (putM L k q) (putM fs k z) := by
  unfold putM
  rw [place_keys L fs k h.keys, there_keys L fs k h.keys]
  split
  · exact (h.take _).append ((h.drop _).cons hq)
  · exact (h.take _).append ((h.drop _).cons hq)
theorem HoldM.dropM {w : World} {L : List (Key × Part)} {fs : List (Key × Int)} {k : Key} (h : HoldM w L fs) : HoldM w (dropM L k) (dropM fs k) := by
  unfold Go.Proofs.YtckfnbckoclhpaaGreatDoor.dropM
  rw [place_keys L fs k h.keys, there_keys L fs k h.keys]
  split
  · exact (h.take _).append (h.drop _)
  · exact h
def factor (fs : List (Key × Int)) (k : Key) : Int := if there fs k then (fs[place fs k]?.getD ([], 0)).2 else 0
theorem HoldM.get {w : World} {L : List (Key × Part)} {fs : List (Key × Int)} {k : Key} (h : HoldM w L fs) (hr : Rise L) : ZR w (gvZ L k) (factor fs k) := by
  unfold gvZ factor
  rw [place_keys L fs k h.keys, there_keys L fs k h.keys]
  split
  · rename_i ht
    have hf := rise_keys h.keys hr
    obtain ⟨z, hz⟩ := (there_iff hf k).1 ht
    have hlt := (List.getElem?_eq_some_iff.1 hz).1
    obtain ⟨p, hp⟩ : ∃ p, L[place fs k]? = some p := ⟨_, List.getElem?_eq_getElem (by rw [h.1]; exact hlt)⟩
    have := (h.2 _ p _ hp hz).2
    rw [hp, hz]
    exact this
  · exact ⟨false, none, 0, 0, [], rfl, Sl.nil _ _ _ _, Below_.nil _, tidy_nil, (fun e => by cases e), ⟨by simp [maxLen], W32.none _ _⟩, rfl⟩
theorem MOZ.typed {w : World} {base b : Nat} {r : Option Nat} {L : List (Key × Part)} (h : MOZ w base b r L) : ∀ g, (g = b ∨ r = some g) → ∃ t cs fz, w.heap[g]? = some (.cells cs t fz) ∧ t ≠ 169 := by
  obtain ⟨A, n, c, k1, k2, k3, k4⟩ := h
  rintro g (rfl | hg)
  · exact ⟨_, _, _, k1, by decide⟩
  · rcases k2.2 with ⟨hv, _⟩ | ⟨g', cap, cur, hv, _, hgg, _⟩
    · rw [hv] at k3
      rw [← k3] at hg
      cases hg
    · rw [hv] at k3
      rw [← k3] at hg
      have e : g' = g := by injection hg
      subst e
      exact ⟨_, _, _, hgg, by decide⟩
def TM (w : World) (v : Value) (rest : Int) (fs : List (Key × Int)) : Prop :=
  ∃ g A n c m, v = .agg #[.bool g, .slice A n c, .pointer m] ∧ ZR w (.agg #[.bool g, .slice A n c]) rest ∧ ((m = none ∧ fs = []) ∨ ∃ b L, m = some ⟨b, 0, none⟩ ∧ MRZ w b L ∧ HoldM w L fs)
theorem TM.pu {w w' : World} {v : Value} {rest : Int} {fs : List (Key × Int)} (h : TM w v rest fs) (p : Pu w w') : TM w' v rest fs := by
  obtain ⟨g, A, n, c, m, h1, h2, h3⟩ := h
  refine ⟨g, A, n, c, m, h1, h2.pu p, ?_⟩
  rcases h3 with h3 | ⟨b, L, h3, h4, h5⟩
  · exact .inl h3
  · exact .inr ⟨b, L, h3, h4.pu p, h5.pu p⟩
theorem TM.rise {w : World} {v : Value} {rest : Int} {fs : List (Key × Int)} (h : TM w v rest fs) : Rise fs ∧ fs.length ≤ 1100000 := by
  obtain ⟨g, A, n, c, m, h1, h2, h3⟩ := h
  rcases h3 with ⟨_, rfl⟩ | ⟨b, L, h3, h4, h5⟩
  · exact ⟨List.Pairwise.nil, by simp⟩
  · exact ⟨rise_keys h5.keys h4.rise, by rw [← h5.1]; exact h4.len⟩
end
section
set_option linter.unusedVariables false
open Go.RowKit
theorem ZR.shape2 {w : World} {v : Value} {z : Int} (h : ZR w v z) : ∃ g A n c, v = .agg #[.bool g, .slice A n c] := by
  obtain ⟨g, A, n, c, l, rfl, -⟩ := h
  exact ⟨g, A, n, c, rfl⟩
theorem tnum_any (v : Value) (z : Int) (w : World) (h : ZR w v z) :
    Calls Tryz.prog 32 #[v] w fun e w' => ∃ v', e = .returned v' ∧ TM w' v' z [] ∧ Pu w w' := by
  obtain ⟨g, A, n, c, rfl⟩ := h.shape2
  have H := Lib.hid h
  clear h
  go_enter Tryz.func32, Tryz.ntmps32
  go_wp2
  have k : Blk ((w.alloc (.cells #[.bool g, .slice A n c] 30)).alloc (.cells #[.bool g, .slice A n c, .pointer none] 33)) (w.heap.size + 1) 33 #[.bool g, .slice A n c, .pointer none] := Blk.at_new _ _ _ (by simp)
  have pA : Pu w ((w.alloc (.cells #[.bool g, .slice A n c] 30)).alloc (.cells #[.bool g, .slice A n c, .pointer none] 33)) := ((Pu.refl w).alloc _).alloc _
  have r0 := k.cell 0
  have r1 := k.cell 1
  have r2 := k.cell 2
  exact bodyPost_ret (v := .agg #[.bool g, .slice A n c, .pointer none]) (by simp [results, Tryz.results32, go_sem, r0, r1, r2]) rfl ⟨_, rfl, ⟨g, A, n, c, none, rfl, H.out.pu pA, .inl ⟨rfl, rfl⟩⟩, pA⟩
theorem over_t {W : World} {b : Nat} {x : Bool} {y : Option Addr} {m d : Nat} {z : Option Addr} (k : Blk W b 33 #[.bool x, .slice y m d, .pointer z]) (g : Bool) (A : Option Addr) (n c : Nat) (q : Option Addr) :
    Blk (((W.setCell ⟨b, 0, none⟩ (.bool g)).setCell ⟨b, 1, none⟩ (.slice A n c)).setCell ⟨b, 2, none⟩ (.pointer q)) b 33 #[.bool g, .slice A n c, .pointer q] ∧
    Fr (fun i => i = b) W (((W.setCell ⟨b, 0, none⟩ (.bool g)).setCell ⟨b, 1, none⟩ (.slice A n c)).setCell ⟨b, 2, none⟩ (.pointer q)) ∧ (∀ i, i = b → ∃ t cs fz, W.heap[i]? = some (.cells cs t fz) ∧ t ≠ 169) :=
  ⟨((k.set_ 0 _).set_ 1 _).set_ 2 _, ((Fr.one W b 0 _).trans (Fr.one _ b 1 _)).trans (Fr.one _ b 2 _), fun i e => by subst e; exact ⟨_, _, _, k, by decide⟩⟩
set_option maxRecDepth 100000 in
theorem tpairs_any (v : Value) (rest : Int) (fs : List (Key × Int)) (w : World) (h : TM w v rest fs) :
    Calls Tryz.prog 48 #[v] w fun e w' => ∃ A n c L, e = .returned (.slice A n c) ∧ Sl w' 3 A n c (kps vcZ L) ∧ n ≤ 1100000 ∧ HoldM w' L fs ∧ Beyond w.heap.size A ∧ Pu w w' := by
  obtain ⟨g, A, n, c, m, rfl, h2, h3⟩ := h
  rcases h3 with ⟨rfl, rfl⟩ | ⟨b, L, rfl, h4, h5⟩
  · have pA : Pu w (w.alloc (.cells #[.bool g, .slice A n c, .pointer none] 33)) := (Pu.refl w).alloc _
    clear h2
    go_enter Tryz.func48, Tryz.ntmps48
    go_wp2
    go_ret
    exact ⟨none, 0, 0, [], rfl, Sl.nil _ _ _ _, by omega, HoldM.nil _, Beyond.none _, pA⟩
  · have pA : Pu w (w.alloc (.cells #[.bool g, .slice A n c, .pointer (some ⟨b, 0, none⟩)] 33)) := (Pu.refl w).alloc _
    have hp := pairsZ b L _ (h4.pu pA)
    have H5 := Lib.hid (h5.pu pA)
    clear h2 h4 h5
    go_enter Tryz.func48, Tryz.ntmps48
    go_wp2_with fail
    refine hp.mono ?_
    rintro e w1 ⟨A1, n1, c1, rfl, ho, hn, p1⟩
    have hs := Sl.of_own ho
    have hB := (Beyond.own ho).le pA.size
    clear ho
    go_wp2
    go_ret
    exact ⟨A1, n1, c1, L, rfl, hs, hn, H5.out.pu p1, hB, pA.trans p1⟩
set_option maxHeartbeats 1000000 in
set_option maxRecDepth 100000 in
theorem tname_any (k : Key) (w : World) :
    Calls Tryz.prog 26 #[.string ⟨k.toArray⟩] w fun e w' => ∃ v', e = .returned v' ∧ TM w' v' 0 [(k, 1)] ∧ Pu w w' := by
  have pA : Pu w (w.alloc (.cells #[.bool false, .slice none 0 0, .pointer none] 33)) := (Pu.refl w).alloc _
  have kA : Blk (w.alloc (.cells #[.bool false, .slice none 0 0, .pointer none] 33)) w.heap.size 33 #[.bool false, .slice none 0 0, .pointer none] := Blk.new _ _ _
  go_enter Tryz.func26, Tryz.ntmps26
  go_wp2_with fail
  refine (newZ _).mono ?_
  rintro e w1 ⟨b, rfl, hm, p1⟩
  go_wp2_with fail
  refine (from_any 1 _ (by omega) (by omega)).mono ?_
  rintro e w2 ⟨v1, rfl, h1, p2⟩
  obtain ⟨g, A, n, c, rfl⟩ := h1.shape2
  have hm2 := hm.pu p2
  go_wp2_with fail
  refine (putZ _ b none [] k (g, A, n, c) w2 hm2 (by simp)).mono ?_
  rintro e w3 ⟨rfl, r', hm3, -, hf3⟩
  have h13 : ZR w3 (Part.val (g, A, n, c)) 1 := ZR.frT h1 hf3 hm2.typed
  have hlt := hm.lt
  have hb : w.heap.size < b := by
    have := hlt.1
    simp at this
    omega
  have kA3 := ((kA.pu p1).pu p2).fr hf3 (by
    rintro (e | e)
    · omega
    · cases e)
  have c0 := kA3.cell 0
  have c1 := kA3.cell 1
  have c2 := kA3.cell 2
  have f0 := kA3.frozen 0
  have f1 := kA3.frozen 1
  have f2 := kA3.frozen 2
  obtain ⟨kB, fB, tB⟩ := over_t kA3 false none 0 0 (some ⟨b, 0, none⟩)
  have hM : HoldM w3 (putM [] k (g, A, n, c)) (putM [] k 1) := (HoldM.nil w3).put h13
  have hM4 := hM.frT fB tB
  have hR4 : MRZ _ b (putM [] k (g, A, n, c)) := MOZ.mr (hm3.fr fB (by show ¬ b = w.heap.size; omega) (fun j hj e => by
    have h4 := (hm3.row j hj).1
    simp at h4
    have e' : j = w.heap.size := e
    omega))
  have PP : Pu w _ := (((pA.trans p1).trans p2).step hf3 (fun i e => by
    rcases e with e | e
    · omega
    · cases e)).step fB (fun i e => by
    have e' : i = w.heap.size := e
    omega)
  have r0 := kB.cell 0
  have r1 := kB.cell 1
  have r2 := kB.cell 2
  have HF := Lib.hid (And.intro hM4 (And.intro hR4 PP))
  clear hM hM4 hR4 PP h13 hm3 hf3 kB fB tB hm hm2 p1 p2 kA pA h1
  go_wp2
  refine bodyPost_ret (v := .agg #[.bool false, .slice none 0 0, .pointer (some ⟨b, 0, none⟩)]) (by simp [results, Tryz.results26, go_sem, r0, r1, r2]) rfl ⟨_, rfl, ⟨false, none, 0, 0, _, rfl, ?_, .inr ⟨b, _, rfl, HF.out.2.1, ?_⟩⟩, HF.out.2.2⟩
  · exact ⟨false, none, 0, 0, [], rfl, Sl.nil _ _ _ _, Below_.nil _, tidy_nil, (fun e => by cases e), ⟨by simp [maxLen], W32.none _ _⟩, rfl⟩
  · have := HF.out.1
    simpa [putM, place, there] using this
end
section
set_option linter.unusedVariables false
open Go.RowKit
def addStep (n : Int) (acc : List (Key × Int)) (g : Key × Int) : List (Key × Int) :=
  if factor acc g.1 + g.2 * n = 0 then dropM acc g.1 else putM acc g.1 (factor acc g.1 + g.2 * n)
def addM (fs gs : List (Key × Int)) (n : Int) : List (Key × Int) := gs.foldl (addStep n) fs
theorem addM_next (fs : List (Key × Int)) {gs : List (Key × Int)} {n : Int} {i : Nat} {g : Key × Int} (h : gs[i]? = some g) : addM fs (gs.take (i + 1)) n = addStep n (addM fs (gs.take i) n) g := by
  rw [List.take_add_one, h, addM, List.foldl_append]
  rfl
def Upto (K : Nat) (l : List (Key × Int)) : Prop := ∀ f ∈ l, f.2.natAbs ≤ K
theorem Upto.le {K J : Nat} {l : List (Key × Int)} (h : Upto K l) (hk : K ≤ J) : Upto J l := fun f hf => Nat.le_trans (h f hf) hk
theorem Upto.factor {K : Nat} {l : List (Key × Int)} (h : Upto K l) (k : Key) : (factor l k).natAbs ≤ K := by
  unfold Go.Proofs.YtckfnbckoclhpaaGreatDoor.factor
  split
  · cases e : l[place l k]? with
    | none => exact Nat.zero_le _
    | some f => exact h f (List.mem_of_getElem? e)
  · exact Nat.zero_le _
theorem mem_putM {P : Type} {l : List (Key × P)} {k : Key} {v : P} {f : Key × P} (h : f ∈ putM l k v) : f = (k, v) ∨ f ∈ l := by
  unfold putM at h
  split at h
  · rcases List.mem_append.1 h with h | h
    · exact .inr (List.mem_of_mem_take h)
    · rcases List.mem_cons.1 h with h | h
      · exact .inl h
      · exact .inr (List.mem_of_mem_drop h)
  · rcases List.mem_append.1 h with h | h
    · exact .inr (List.mem_of_mem_take h)
    · rcases List.mem_cons.1 h with h | h
      · exact .inl h
      · exact .inr (List.mem_of_mem_drop h)
theorem mem_dropM {P : Type} {l : List (Key × P)} {k : Key} {f : Key × P} (h : f ∈ dropM l k) : f ∈ l := by
  unfold dropM at h
  split at h
  · rcases List.mem_append.1 h with h | h
    · exact List.mem_of_mem_take h
    · exact List.mem_of_mem_drop h
  · exact h
theorem addStep_upto {K M : Nat} {n : Int} {acc : List (Key × Int)} {g : Key × Int} (h : Upto K acc) (hm : (g.2 * n).natAbs ≤ M) : Upto (K + M) (addStep n acc g) := by
  have h1 := h.factor g.1
  intro f hf
  unfold addStep at hf
  split at hf
  · exact Nat.le_trans (h f (mem_dropM hf)) (Nat.le_add_right _ _)
  · rcases mem_putM hf with e | e
    · rw [e]
      show (factor acc g.1 + g.2 * n).natAbs ≤ K + M
      omega
    · exact Nat.le_trans (h f e) (Nat.le_add_right _ _)
theorem addStep_len {n : Int} {acc : List (Key × Int)} {g : Key × Int} : (addStep n acc g).length ≤ acc.length + 1 := by
  unfold addStep
  split
  · exact Nat.le_succ_of_le (dropM_len _ _)
  · exact putM_len _ _ _
theorem addStep_rise {n : Int} {acc : List (Key × Int)} {g : Key × Int} (h : Rise acc) : Rise (addStep n acc g) := by
  unfold addStep
  split
  · exact dropM_rise h _
  · exact putM_rise h _ _
end
section
set_option linter.unusedVariables false
open Go.RowKit
def NZ (l : List (Key × Int)) : Prop := ∀ f ∈ l, f.2 ≠ 0
theorem NZ.nil : NZ [] := fun f hf => by cases hf
theorem factor_look (fs : List (Key × Int)) (k : Key) : factor fs k = (lookM fs k).getD 0 := by
  unfold factor lookM
  split
  · cases fs[place fs k]? <;> rfl
  · rfl
theorem factor_mem {fs : List (Key × Int)} (hr : Rise fs) {k : Key} {z : Int} (h : (k, z) ∈ fs) : factor fs k = z := by
  rw [factor_look, (look_some hr).2 h]
  rfl
theorem factor_not {fs : List (Key × Int)} (hr : Rise fs) {k : Key} (h : ∀ f ∈ fs, f.1 ≠ k) : factor fs k = 0 := by
  rw [factor_look, look_there (there_not h)]
  rfl
theorem factor_put {fs : List (Key × Int)} (hr : Rise fs) (k : Key) (z : Int) (x : Key) : factor (putM fs k z) x = if x = k then z else factor fs x := by
  rw [factor_look, look_put hr, factor_look]
  split <;> rfl
theorem mem_drop {l : List (Key × Int)} (hr : Rise l) (k : Key) (f : Key × Int) : f ∈ dropM l k ↔ f ∈ l ∧ f.1 ≠ k := by
  unfold dropM
  split
  · rename_i h
    obtain ⟨u, hu⟩ := (there_iff hr k).1 h
    have hlt := (List.getElem?_eq_some_iff.1 hu).1
    have hd : l.drop (place l k) = (k, u) :: l.drop (place l k + 1) := by
      rw [List.drop_eq_getElem_cons hlt]
      congr 1
      exact (List.getElem?_eq_some_iff.1 hu).2
    rw [List.mem_append]
    constructor
    · rintro (h | h)
      · exact ⟨List.mem_of_mem_take h, klt_ne (take_lt hr f h)⟩
      · refine ⟨List.mem_of_mem_drop h, fun e => ?_⟩
        obtain ⟨j, hj⟩ := List.getElem?_of_mem h
        rw [List.getElem?_drop] at hj
        have := rise_lt hr hu hj (by omega)
        rw [e] at this
        exact kirr k this
    · rintro ⟨h, hn⟩
      have : f ∈ l.take (place l k) ++ l.drop (place l k) := by rwa [List.take_append_drop]
      rcases List.mem_append.1 this with h | h
      · exact .inl h
      · rw [hd] at h
        rcases List.mem_cons.1 h with h | h
        · exact absurd (by rw [h]) hn
        · exact .inr h
  · rename_i h
    constructor
    · intro hf
      refine ⟨hf, fun e => h ?_⟩
      exact List.any_eq_true.2 ⟨f, hf, by simpa using e⟩
    · exact fun h => h.1
theorem factor_drop {fs : List (Key × Int)} (hr : Rise fs) (k x : Key) : factor (dropM fs k) x = if x = k then 0 else factor fs x := by
  by_cases h : x = k
  · rw [if_pos h]
    exact factor_not (dropM_rise hr k) (fun f hf e => ((mem_drop hr k f).1 hf).2 (e.trans h))
  · rw [if_neg h]
    cases e : lookM fs x with
    | some u =>
      have hu := (look_some hr).1 e
      rw [factor_mem hr hu]
      exact factor_mem (dropM_rise hr k) ((mem_drop hr k _).2 ⟨hu, h⟩)
    | none =>
      rw [factor_look fs, e]
      refine factor_not (dropM_rise hr k) (fun f hf e2 => ?_)
      have h3 := (look_some hr (k := x) (v := f.2)).2 (by rw [← e2]; exact ((mem_drop hr k f).1 hf).1)
      rw [e] at h3
      cases h3
theorem addStep_factor {n : Int} {acc : List (Key × Int)} (hr : Rise acc) (g : Key × Int) (x : Key) : factor (addStep n acc g) x = if x = g.1 then factor acc g.1 + g.2 * n else factor acc x := by
  unfold addStep
  split
  · rename_i h
    rw [factor_drop hr]
    split
    · rw [h]
    · rfl
  · rw [factor_put hr]
theorem addStep_nz {n : Int} {acc : List (Key × Int)} (hr : Rise acc) (hz : NZ acc) (g : Key × Int) : NZ (addStep n acc g) := by
  unfold addStep
  split
  · exact fun f hf => hz f ((mem_drop hr _ f).1 hf).1
  · rename_i h
    intro f hf
    rcases (mem_put hr _ _ f).1 hf with e | e
    · rw [e]
      exact h
    · exact hz f e.1
theorem addM_rise {n : Int} : ∀ (gs fs : List (Key × Int)), Rise fs → Rise (addM fs gs n)
  | [], _, h => h
  | g :: gs, fs, h => addM_rise gs _ (addStep_rise h)
theorem addM_nz {n : Int} : ∀ (gs fs : List (Key × Int)), Rise fs → NZ fs → NZ (addM fs gs n)
  | [], _, _, h => h
  | g :: gs, fs, hr, h => addM_nz gs _ (addStep_rise hr) (addStep_nz hr h g)
theorem addM_len {n : Int} : ∀ (gs fs : List (Key × Int)), (addM fs gs n).length ≤ fs.length + gs.length
  | [], fs => Nat.le_refl _
  | g :: gs, fs => by
    have h1 := addM_len (n := n) gs (addStep n fs g)
    have h2 := addStep_len (n := n) (acc := fs) (g := g)
    rw [List.length_cons]
    show (addM (addStep n fs g) gs n).length ≤ _
    omega
theorem addM_factor {n : Int} : ∀ (gs fs : List (Key × Int)), Rise fs → Rise gs → ∀ x, factor (addM fs gs n) x = factor fs x + factor gs x * n
  | [], fs, _, _, x => by
    show factor fs x = _
    rw [show factor ([] : List (Key × Int)) x = 0 from rfl, Int.zero_mul, Int.add_zero]
  | g :: gs, fs, hr, hg, x => by
    have hg' := List.pairwise_cons.1 hg
    show factor (addM (addStep n fs g) gs n) x = _
    rw [addM_factor gs _ (addStep_rise hr) hg'.2, addStep_factor hr]
    by_cases h : x = g.1
    · rw [if_pos h, h, factor_mem (fs := g :: gs) hg (k := g.1) (z := g.2) (List.mem_cons_self ..), factor_not hg'.2 (fun f hf e => by
        have := hg'.1 f hf
        rw [e] at this
        exact kirr _ this), Int.zero_mul, Int.add_zero]
    · rw [if_neg h]
      have : factor (g :: gs) x = factor gs x := by
        cases e : lookM gs x with
        | some u =>
          have hu := (look_some hg'.2).1 e
          rw [factor_mem hg'.2 hu]
          exact factor_mem hg (List.mem_cons_of_mem _ hu)
        | none =>
          rw [factor_look gs, e]
          refine factor_not hg (fun f hf e2 => ?_)
          rcases List.mem_cons.1 hf with h3 | h3
          · rw [h3] at e2
            exact h e2.symm
          · have h4 := (look_some hg'.2 (k := x) (v := f.2)).2 (by rw [← e2]; exact h3)
            rw [e] at h4
            cases h4
      rw [this]
def mulM (fs : List (Key × Int)) (n : Int) : List (Key × Int) := fs.map fun f => (f.1, f.2 * n)
def divM (fs : List (Key × Int)) (n : Int) : List (Key × Int) := fs.map fun f => (f.1, f.2 / n)
theorem map_rise {fs : List (Key × Int)} (h : Rise fs) (f : Key × Int → Int) : Rise (fs.map fun q => (q.1, f q)) := by
  unfold Rise at *
  rw [List.pairwise_map]
  exact h
theorem addM_puts {n : Int} : ∀ (fs acc : List (Key × Int)), Rise fs → (∀ f ∈ fs, f.2 * n ≠ 0) → (∀ p ∈ acc, ∀ q ∈ fs, p.1 < q.1) → Rise acc → addM acc fs n = acc ++ mulM fs n
  | [], acc, _, _, _, _ => by simp [addM, mulM]
  | g :: fs, acc, hr, hz, ha, hra => by
    have hr' := List.pairwise_cons.1 hr
    have h0 : factor acc g.1 = 0 := factor_not hra (fun f hf => klt_ne (ha f hf g (List.mem_cons_self ..)))
    have h1 : addStep n acc g = acc ++ [(g.1, g.2 * n)] := by
      unfold addStep
      rw [h0, Int.zero_add, if_neg (hz g (List.mem_cons_self ..)), putM_last (fun p hp => ha p hp g (List.mem_cons_self ..))]
    have h2 := addM_puts (n := n) fs (addStep n acc g) hr'.2 (fun f hf => hz f (List.mem_cons_of_mem _ hf)) (fun p hp q hq => by
      rw [h1] at hp
      rcases List.mem_append.1 hp with hp | hp
      · exact ha p hp q (List.mem_cons_of_mem _ hq)
      · rw [List.mem_singleton] at hp
        rw [hp]
        exact hr'.1 q hq) (addStep_rise hra)
    show addM (addStep n acc g) fs n = _
    rw [h2, h1]
    simp [mulM]
theorem addM_nil {n : Int} {fs : List (Key × Int)} (hr : Rise fs) (hz : NZ fs) (hn : n ≠ 0) : addM [] fs n = mulM fs n := by
  have := addM_puts (n := n) fs [] hr (fun f hf => Int.mul_ne_zero (hz f hf) hn) (fun p hp => by cases hp) List.Pairwise.nil
  simpa using this
theorem mulM_nz {fs : List (Key × Int)} {n : Int} (hz : NZ fs) (hn : n ≠ 0) : NZ (mulM fs n) := by
  intro f hf
  obtain ⟨q, hq, rfl⟩ := List.mem_map.1 hf
  exact Int.mul_ne_zero (hz q hq) hn
theorem divM_nz {fs : List (Key × Int)} {n : Int} (hz : NZ fs) (hd : ∀ f ∈ fs, n ∣ f.2) : NZ (divM fs n) := by
  intro f hf
  obtain ⟨q, hq, rfl⟩ := List.mem_map.1 hf
  intro e
  have h := hd q hq
  have h2 : n * (q.2 / n) = q.2 := Int.mul_ediv_cancel' h
  dsimp only at e
  rw [e, Int.mul_zero] at h2
  exact hz q hq h2.symm
theorem factor_ext {l l' : List (Key × Int)} (hr : Rise l) (hr' : Rise l') (hz : NZ l) (hz' : NZ l') (h : ∀ k, factor l k = factor l' k) : l = l' := by
  refine rise_ext hr hr' (fun k => ?_)
  have h1 := h k
  rw [factor_look, factor_look] at h1
  cases e : lookM l k with
  | some u =>
    have hu := hz _ ((look_some hr).1 e)
    cases e' : lookM l' k with
    | some v =>
      rw [e, e'] at h1
      exact congrArg some h1
    | none =>
      rw [e, e'] at h1
      exact absurd h1 hu
  | none =>
    cases e' : lookM l' k with
    | some v =>
      rw [e, e'] at h1
      exact absurd h1.symm (hz' _ ((look_some hr').1 e'))
    | none => rfl
end
end Go.Proofs.YtckfnbckoclhpaaGreatDoor
