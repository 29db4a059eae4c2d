/- Maps of int to int: Put, Drop. -/
import Derived.Test.YtckfnbckoclhpaaMap5
set_option linter.unusedVariables false
namespace Go.Proofs.Ytckfnbckoclhpaa
open Go.RowKit

theorem set_get {l : List (Int × Int)} {i : Nat} {k u v : Int} (hi : l[i]? = some (k, u)) (j : Nat) :
    (prs (l.take i ++ (k, v) :: l.drop (i + 1)))[j]? = if j = i * 2 + 1 then some (.int .i64 v) else (prs l)[j]? := by
  have hil := (List.getElem?_eq_some_iff.1 hi).1
  have hl := prs_len l
  have e : prs (l.take i ++ (k, v) :: l.drop (i + 1)) = prs (l.take i) ++ ([Value.int .i64 k, .int .i64 v] ++ prs (l.drop (i + 1))) := by simp [prs]
  have htl : (prs (l.take i)).length = i * 2 := by rw [prs_len]; simp; omega
  obtain ⟨g1, g2⟩ := prs_get l i _ hi
  rw [e]
  by_cases h1 : j < i * 2
  · rw [if_neg (by omega), List.getElem?_append_left (by omega), prs_take, List.getElem?_take, if_pos h1]
  · rw [List.getElem?_append_right (by omega), htl]
    by_cases h2 : j < i * 2 + 2
    · rw [List.getElem?_append_left (by simp; omega)]
      rcases (show j = i * 2 ∨ j = i * 2 + 1 by omega) with e | e
      · subst e
        rw [if_neg (by omega), g1]
        simp
      · subst e
        rw [if_pos rfl, show i * 2 + 1 - i * 2 = 1 by omega]
        rfl
    · rw [if_neg (by omega), List.getElem?_append_right (by simp; omega), prs_drop, List.getElem?_drop]
      simp
      congr 1
      omega
theorem own_setv {w : World} {base n c g : Nat} {l : List (Int × Int)} {i : Nat} {k u v : Int} (h : w.ownsRow base 75 2 (.slice (some ⟨g, 0, none⟩) n c) n (prs l)) (hi : l[i]? = some (k, u)) :
    (w.setCell ⟨g, i * 2 + 1, none⟩ (.int .i64 v)).ownsRow base 75 2 (.slice (some ⟨g, 0, none⟩) n c) n (prs (l.take i ++ (k, v) :: l.drop (i + 1))) := by
  have hl : l.length = n := (Sl.of_own h).prs_len
  have hil := (List.getElem?_eq_some_iff.1 hi).1
  obtain ⟨g', cur, hA, hb, hg, hnc, hcm, hcs, htk⟩ := own_blk h (by omega)
  obtain rfl : g' = g := by injection hA with hA; injection hA with hA; exact hA.symm
  refine own_of_blk hb (hg.set_ (i * 2 + 1) (.int .i64 v)) hnc hcm (by rw [Array.size_setIfInBounds, hcs]) (by rw [prs_len]; simp; omega) fun j hj => ?_
  rw [set_get hi]
  by_cases e : j = i * 2 + 1
  · subst e
    rw [if_pos rfl, Array.getElem?_setIfInBounds_self_of_lt (by omega)]
  · rw [if_neg e, Array.getElem?_setIfInBounds_ne (fun h => e h.symm), take_add_one_prs htk hj]

theorem own_ne_blk {w : World} {base k n b : Nat} {e t : TypeId} {v : Value} {xs : List Value} {cs : Array Value} (h : w.ownsRow base e k v n xs) (hb : Blk w b t cs) (hne : e ≠ t) : ∀ g, v.ownBlock = some g → g ≠ b := by
  intro g hg
  rcases h.2 with ⟨rfl, _⟩ | ⟨g', cap, cur, rfl, _, hgg, _⟩
  · cases hg
  · injection hg with hg
    simp only at hg
    subst hg
    exact Blk.ne_ (t := e) (t' := t) hgg hb hne

set_option maxHeartbeats 1000000 in
set_option maxRecDepth 100000 in
theorem put_any (base b : Nat) (r : Option Nat) (l : List (Int × Int)) (k v : Int) (w : World) (h : MapR w base b r l) (hl : l.length < 1000) :
    Calls Try.prog 38 #[.pointer (some ⟨b, 0, none⟩), .int .i64 k, .int .i64 v] w fun e w' => e = .returned (.bool (!there l k)) ∧ ∃ r', MapR w' base b r' (putM l k v) ∧ Fr (fun j => j = b ∨ r = some j) w w' := by
  have hf := find_any base b r l k w h
  have hrow := h.row
  have hlt := h.lt
  obtain ⟨A, n, c, k1, k2, k3, k4, k5, k6⟩ := h
  have hln : l.length = n := (Sl.of_own k2).prs_len
  have TI := there_iff k6 k
  have hpl := place_le l k
  have hpr := putM_rise k6 k v
  have hpM : putM l k v = if there l k then l.take (place l k) ++ (k, v) :: l.drop (place l k + 1) else l.take (place l k) ++ (k, v) :: l.drop (place l k) := rfl
  generalize hM : putM l k v = M at *
  generalize hth : there l k = th at *
  generalize hP : place l k = P at *
  clear hM hth hP
  rcases th with _ | _
  · have HM := Lib.hid (show M = putAt l P k v from hpM)
    have Hrow := Lib.hid hrow
    clear hpM hrow TI
    go_enter Try.func38, Try.ntmps38
    go_wp2_with fail
    refine hf.mono ?_
    rintro e w1 ⟨rfl, h1⟩
    have c0 : w1.cell? ⟨b, 0, none⟩ = some (.slice A n c) := (k1.pu h1).cell 0
    have hsz := h1.size
    have ho1 := own_pu k2 h1
    have hA : ∀ a, A = some a → a.block ≠ w1.heap.size := fun a ha => by
      have := ho1.lt a.block (by rw [ha]; rfl)
      omega
    have HA := Lib.hid hA
    clear hA
    go_wp2_with fail
    refine (insert_any base A n c P w1.heap.size l k v _ (ho1.alloc _) (by omega) (by omega) (by simp; omega) (Blk.new _ _ _) HA.out).mono ?_
    rintro e w2 ⟨A2, c2, rfl, ho2, hF⟩
    have hbA : (Value.slice A n c).ownBlock ≠ some b := fun e => by
      have := (Hrow.out b (by rw [← k3]; exact e)).2.2
      exact this rfl
    have k2' : Blk w2 b 95 #[.slice A n c] := ((k1.pu h1).alloc _).fr hF hbA
    have c2' : w2.cell? ⟨b, 0, none⟩ = some (.slice A n c) := k2'.cell 0
    have f2' : w2.frozen? ⟨b, 0, none⟩ = false := k2'.frozen 0
    have hfr : Fr (fun j => j = b ∨ r = some j) w w2 := (h1.alloc _).fr' (hF.mono (fun j _ e => .inr (by rw [← k3]; exact e)))
    clear ho1 c0 hF
    go_wp2
    go_ret
    refine ⟨rfl, _, ⟨A2, n + 1, c2, k2'.set_ 0 _, own_fr ?_ (Fr.one w2 b 0 _) (own_ne_blk ho2 k2' (by decide)), rfl, k4, by omega, hpr⟩, hfr.setCell (p := ⟨b, 0, none⟩) (.inl (.inl rfl)) _⟩
    rw [HM.out]
    exact ho2
  · obtain ⟨u, hu⟩ := TI.1 rfl
    have HM := Lib.hid (show M = l.take P ++ (k, v) :: l.drop (P + 1) from hpM)
    have Hu := Lib.hid hu
    have hPl := (List.getElem?_eq_some_iff.1 hu).1
    obtain ⟨g, cur, rfl, hb, hg, hnc, hcm, hcs, htk⟩ := own_blk k2 (by omega)
    have hcg := take_add_one_prs htk (j := P * 2 + 1) (by omega)
    rw [(prs_get l P _ hu).2] at hcg
    clear hpM TI hu
    go_enter Try.func38, Try.ntmps38
    go_wp2_with fail
    refine hf.mono ?_
    rintro e w1 ⟨rfl, h1⟩
    have c0 : w1.cell? ⟨b, 0, none⟩ = some (.slice (some ⟨g, 0, none⟩) n c) := (k1.pu h1).cell 0
    have c1 : w1.cell? ⟨g, P * 2 + 1, none⟩ = some (.int .i64 u) := ((hg.pu h1).cell _).trans hcg
    have f1 : w1.frozen? ⟨g, P * 2 + 1, none⟩ = false := (hg.pu h1).frozen _
    go_wp2
    go_ret
    have hne : g ≠ b := (hrow g (by rw [← k3]; rfl)).2.2
    refine ⟨rfl, r, ⟨some ⟨g, 0, none⟩, n, c, (k1.pu h1).far (p := ⟨g, P * 2 + 1, none⟩) (fun e => hne e.symm) _, ?_, k3, k4, k5, hpr⟩, h1.fr.setCell (p := ⟨g, P * 2 + 1, none⟩) (.inl (.inr (by rw [← k3]; rfl))) _⟩
    rw [HM.out]
    exact own_setv (own_pu k2 h1) Hu.out

set_option maxHeartbeats 1000000 in
set_option maxRecDepth 100000 in
theorem drop_any (base b : Nat) (r : Option Nat) (l : List (Int × Int)) (k : Int) (w : World) (h : MapR w base b r l) :
    Calls Try.prog 40 #[.pointer (some ⟨b, 0, none⟩), .int .i64 k] w fun e w' => e = .returned (.bool (there l k)) ∧ ∃ r', MapR w' base b r' (dropM l k) ∧ Fr (fun j => j = b ∨ r = some j) w w' := by
  have hf := find_any base b r l k w h
  have hrow := h.row
  have hmap := h
  obtain ⟨A, n, c, k1, k2, k3, k4, k5, k6⟩ := h
  have hln : l.length = n := (Sl.of_own k2).prs_len
  have TI := there_iff k6 k
  have hpl := place_le l k
  have hpr := dropM_rise k6 k
  have hpM : dropM l k = if there l k then l.take (place l k) ++ l.drop (place l k + 1) else l := rfl
  generalize hM : dropM l k = M at *
  generalize hth : there l k = th at *
  generalize hP : place l k = P at *
  clear hM hth hP
  have Hrow := Lib.hid hrow
  clear hrow
  rcases th with _ | _
  · have HM := Lib.hid (show M = l from hpM)
    clear hpM TI
    go_enter Try.func40, Try.ntmps40
    go_wp2_with fail
    refine hf.mono ?_
    rintro e w1 ⟨rfl, h1⟩
    go_wp2
    go_ret
    exact ⟨rfl, r, by rw [HM.out]; exact hmap.pu h1, h1.fr⟩
  · obtain ⟨u, hu⟩ := TI.1 rfl
    have HM := Lib.hid (show M = l.take P ++ l.drop (P + 1) from hpM)
    have hPl := (List.getElem?_eq_some_iff.1 hu).1
    have hw1 : IntKind.i64.wrap ((P : Int) + 1) = (P : Int) + 1 := IntWalk.i64_in _ (by omega)
    clear hpM TI hu hmap
    go_enter Try.func40, Try.ntmps40
    go_wp2_with fail
    refine hf.mono ?_
    rintro e w1 ⟨rfl, h1⟩
    have c0 : w1.cell? ⟨b, 0, none⟩ = some (.slice A n c) := (k1.pu h1).cell 0
    go_wp2_with fail
    refine (delete_any base A n c P l _ (own_pu k2 h1) (by omega) (by omega)).mono ?_
    rintro e w2 ⟨rfl, ho2, hF⟩
    have hbA : (Value.slice A n c).ownBlock ≠ some b := fun e => by
      have := (Hrow.out b (by rw [← k3]; exact e)).2.2
      exact this rfl
    have k2' : Blk w2 b 95 #[.slice A n c] := (k1.pu h1).fr hF hbA
    have c2' : w2.cell? ⟨b, 0, none⟩ = some (.slice A n c) := k2'.cell 0
    have f2' : w2.frozen? ⟨b, 0, none⟩ = false := k2'.frozen 0
    have hfr : Fr (fun j => j = b ∨ r = some j) w w2 := h1.fr' (hF.mono (fun j _ e => .inr (by rw [← k3]; exact e)))
    clear c0 hF
    go_wp2
    go_ret
    refine ⟨rfl, _, ⟨A, n - 1, c, k2'.set_ 0 _, own_fr ?_ (Fr.one w2 b 0 _) (own_ne_blk ho2 k2' (by decide)), rfl, k4, by omega, hpr⟩, hfr.setCell (p := ⟨b, 0, none⟩) (.inl (.inl rfl)) _⟩
    rw [HM.out]
    exact ho2
end Go.Proofs.Ytckfnbckoclhpaa
