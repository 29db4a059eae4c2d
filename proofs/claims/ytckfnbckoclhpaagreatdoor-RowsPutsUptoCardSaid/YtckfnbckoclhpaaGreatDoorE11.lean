/- Maps from texts to zed.Int: how they lie; a key's place. Maps from texts to zed.Int: find, NewMap. Maps from texts to zed.Int: Get, Pairs. Maps from texts to zed.Int: slices.Insert, slices.Delete. Maps from texts to zed.Int: Put, Drop. Maps from texts to zed.Int: Drop. -/
import Derived.Test.YtckfnbckoclhpaaGreatDoorE10
import Derived.Test.YtckfnbckoclhpaaGreatDoorC02
import Derived.Test.YtckfnbckoclhpaaGreatDoorC01
import Derived.Lib.SliceRun
import Derived.Lib.Overlaps
import Derived.Lib.AppendZerosOnto
import Derived.Lib.AppendZeros
import Derived.Laws.Externs
import Derived.Deep.RegionHeld3
import Derived.BigRegion
namespace Go.Proofs.YtckfnbckoclhpaaGreatDoor
section
set_option linter.unusedVariables false
open Go.RowKit
abbrev vcZ (q : Part) : List Value := [.bool q.1, .slice q.2.1 q.2.2.1 q.2.2.2]
theorem vcZ_len (q : Part) : (vcZ q).length = 2 := rfl
theorem vcZ_one (q : Part) : ∀ u ∈ vcZ q, u.oneCell' = true := by
  intro u hu
  simp at hu
  rcases hu with rfl | rfl <;> rfl
theorem eiPZ : ElemI Tryz.prog 116 119 (.agg #[.string ⟨#[]⟩, .bool false, .slice none 0 0]) 3 48 := ⟨Tryz.underlying116, by kernel_rfl, rfl, by decide⟩
theorem atZ {w : World} {A : Option Addr} {n c : Nat} {l : List (Key × Part)} (h : Sl w 3 A n c (kps vcZ l)) {j : Nat} {x : Key} {q : Part} (hj : l[j]? = some (x, q)) :
    ∃ b off, A = some ⟨b, off, none⟩ ∧ b < w.heap.size ∧ w.cell? ⟨b, off + j * 3, none⟩ = some (.string ⟨x.toArray⟩) ∧ w.cell? ⟨b, off + j * 3 + 1, none⟩ = some (.bool q.1) ∧ w.cell? ⟨b, off + j * 3 + 1 + 1, none⟩ = some (.slice q.2.1 q.2.2.1 q.2.2.2) := by
  obtain ⟨b, off, rfl, hb, h1, h2⟩ := kps_at (s := 2) vcZ_len h hj
  exact ⟨b, off, rfl, hb, h1, h2 0 _ rfl, h2 1 _ rfl⟩
theorem lenZ {w : World} {A : Option Addr} {n c : Nat} {l : List (Key × Part)} (h : Sl w 3 A n c (kps vcZ l)) : l.length = n := Sl.klen (s := 2) vcZ_len h
theorem findCmpZ (x k : Key) (q : Part) (w : World) : Calls Tryz.prog 86 #[.agg #[.string ⟨x.toArray⟩, .bool q.1, .slice q.2.1 q.2.2.1 q.2.2.2], .string ⟨k.toArray⟩] w fun e w' => e = .returned (.int .i64 (cmpK x k)) ∧ Pu w w' := by
  go_enter Tryz.func86, Tryz.ntmps86
  go_wp2_with fail
  refine (compare_str x k _).mono ?_
  rintro e w1 ⟨rfl, rfl⟩
  go_wp2
  go_ret
  exact ⟨rfl, (Pu.refl w).alloc _⟩
set_option maxHeartbeats 1000000 in
set_option maxRecDepth 100000 in
theorem searchZ (A : Option Addr) (n c : Nat) (l : List (Key × Part)) (k : Key) (w : World) (h : Sl w 3 A n c (kps vcZ l)) (hn : n ≤ 4000000) (hr : Rise l) :
    Calls Tryz.prog 85 #[.slice A n c, .string ⟨k.toArray⟩, .func (.func 86) #[] #[]] w fun e w' =>
      e = .returned (.tuple #[.int .i64 (place l k : Int), .bool (there l k)]) ∧ Pu w w' := by
  have hl := lenZ h
  have PS := Lib.hid (fun j p h => place_spec k l hr j p h)
  have TA := Lib.hid (fun j p (h : l[j]? = some p) e => there_at hr (k := k) h e)
  have TI := Lib.hid (there_iff hr k)
  have hpl := place_le l k
  generalize hP : place l k = P at *
  generalize hth : there l k = th at *
  clear hP hth
  go_enter Tryz.func85, Tryz.ntmps85
  go_wp2_with fail
  go_loopw [9, 10] (fun a b wr => ∃ i j : Nat, i ≤ P ∧ P ≤ j ∧ j ≤ n ∧ a = .int .i64 i ∧ b = .int .i64 j ∧ Pu w wr) (fun a b _ => (intOf b).toNat - (intOf a).toNat)
  case atStart => exact ⟨0, n, Nat.zero_le _, by omega, Nat.le_refl _, rfl, rfl, Pu.refl _⟩
  case round =>
    obtain ⟨i, j, hi, hPj, hj, rfl, rfl, hPu⟩ := hrel
    by_cases hlt : i < j
    · obtain ⟨p, hp⟩ : ∃ p, l[(i + j) / 2]? = some p := ⟨_, List.getElem?_eq_getElem (by omega)⟩
      obtain ⟨x, q⟩ := p
      obtain ⟨bb, off, rfl, hbw, hc1, hc2, hc3⟩ := atZ (h.pu hPu) hp
      have ps := PS.out _ _ hp
      have Ps := Lib.hid ps
      clear hp ps
      by_cases hxk : x < k
      · have hmP := Ps.out.2 hxk
        have e1 := cmpK_lt hxk
        have E1 := Lib.hid e1
        clear Ps hxk e1
        go_wp2_with fail
        refine (findCmpZ x k q _).mono ?_
        rintro e w1 ⟨rfl, h1⟩
        rw [E1.out]
        have hP1 := hPu.trans h1
        clear hc1 hc2 hc3 hPu
        go_wp2
        go_roundw
        case rel => exact ⟨(i + j) / 2 + 1, j, by omega, hPj, hj, by go_num, rfl, hP1⟩
        case measure => simp [intOf]; omega
      · have hmP : ¬ (i + j) / 2 < P := fun h => hxk (Ps.out.1 h)
        have e1 : ∃ s, cmpK x k = s ∧ decide (s < 0) = false := by
          unfold cmpK
          rw [if_neg hxk]
          split
          · exact ⟨1, rfl, rfl⟩
          · exact ⟨0, rfl, rfl⟩
        obtain ⟨s1, e1, d1⟩ := e1
        have E1 := Lib.hid e1
        clear Ps hxk e1
        go_wp2_with fail
        refine (findCmpZ x k q _).mono ?_
        rintro e w1 ⟨rfl, h1⟩
        rw [E1.out]
        have hP1 := hPu.trans h1
        clear hc1 hc2 hc3 hPu
        go_wp2
        go_roundw
        case rel => exact ⟨i, (i + j) / 2, hi, by omega, by omega, rfl, rfl, hP1⟩
        case measure => simp [intOf]; omega
    · obtain rfl : i = P := by omega
      obtain rfl : j = i := by omega
      by_cases hPn : j < n
      · obtain ⟨p, hp⟩ : ∃ p, l[j]? = some p := ⟨_, List.getElem?_eq_getElem (by omega)⟩
        obtain ⟨x, q⟩ := p
        obtain ⟨bb, off, rfl, hbw, hc1, hc2, hc3⟩ := atZ (h.pu hPu) hp
        have ta := Lib.hid (fun e => TA.out j _ hp e)
        have Hp := Lib.hid hp
        clear hp
        have key : ∃ s, cmpK x k = s ∧ (s == 0) = th := by
          rcases th with _ | _
          · have hne : x ≠ k := fun e => by have := (ta.out e).1; cases this
            have hge : ¬ x < k := fun h => by have := (PS.out _ _ Hp.out).2 h; omega
            rcases kcase x k with h | h | h
            · exact absurd h hge
            · exact absurd h hne
            · exact ⟨_, cmpK_gt h, rfl⟩
          · obtain ⟨u, hu⟩ := TI.out.1 rfl
            rw [Hp.out] at hu
            injection hu with hu
            injection hu with e _
            exact ⟨_, cmpK_eq e, rfl⟩
        obtain ⟨s1, e1, d1⟩ := key
        have E1 := Lib.hid e1
        clear ta e1
        go_wp2_with fail
        refine (findCmpZ x k q _).mono ?_
        rintro e w1 ⟨rfl, h1⟩
        rw [E1.out]
        have hP1 := hPu.trans h1
        clear hc1 hc2 hc3 hPu
        go_wp2
        go_ret2
        exact ⟨rfl, hP1⟩
      · have ht : th = false := by
          rcases th with _ | _
          · rfl
          · obtain ⟨u, hu⟩ := TI.out.1 rfl
            have := (List.getElem?_eq_some_iff.1 hu).1
            omega
        subst ht
        go_wp2
        go_ret2
        exact ⟨rfl, hPu⟩
end
section
set_option linter.unusedVariables false
open Go.RowKit
def MRZ (w : World) (b : Nat) (l : List (Key × Part)) : Prop :=
  ∃ A n c, Blk w b 126 #[.slice A n c] ∧ Sl w 3 A n c (kps vcZ l) ∧ n ≤ 1100000 ∧ Rise l
theorem MRZ.pu {w w' : World} {b : Nat} {l : List (Key × Part)} (h : MRZ w b l) (hf : Pu w w') : MRZ w' b l := by
  obtain ⟨A, n, c, k1, k2, k3⟩ := h
  exact ⟨A, n, c, k1.pu hf, k2.pu hf, k3⟩
theorem MRZ.rise {w : World} {b : Nat} {l : List (Key × Part)} (h : MRZ w b l) : Rise l := by
  obtain ⟨A, n, c, k1, k2, k3, k4⟩ := h
  exact k4
theorem MRZ.len {w : World} {b : Nat} {l : List (Key × Part)} (h : MRZ w b l) : l.length ≤ 1100000 := by
  obtain ⟨A, n, c, k1, k2, k3, k4⟩ := h
  rw [lenZ k2]
  exact k3
def MOZ (w : World) (base b : Nat) (r : Option Nat) (l : List (Key × Part)) : Prop :=
  ∃ A n c, Blk w b 126 #[.slice A n c] ∧ w.ownsRow base 119 3 (.slice A n c) n (kps vcZ l) ∧ (Value.slice A n c).ownBlock = r ∧ base ≤ b ∧ n ≤ 1100000 ∧ Rise l
section
variable {w w' : World} {base b : Nat} {r : Option Nat} {l : List (Key × Part)}
theorem MOZ.mr (h : MOZ w base b r l) : MRZ w b l := by
  obtain ⟨A, n, c, k1, k2, k3, k4, k5, k6⟩ := h
  exact ⟨A, n, c, k1, Sl.of_own k2, k5, k6⟩
theorem MOZ.fr {S : Nat → Prop} (h : MOZ w base b r l) (hf : Fr S w w') (h1 : ¬ S b) (h2 : ∀ g, r = some g → ¬ S g) : MOZ w' base b r l := by
  obtain ⟨A, n, c, k1, k2, k3, k4⟩ := h
  exact ⟨A, n, c, k1.fr hf h1, own_fr k2 hf (fun g hg => h2 g (by rw [← k3, hg])), k3, k4⟩
theorem MOZ.pu (h : MOZ w base b r l) (hf : Pu w w') : MOZ w' base b r l := h.fr hf (fun x => x) (fun _ _ x => x)
theorem MOZ.base_ {base' : Nat} (h : MOZ w base b r l) (hb : base' ≤ base) : MOZ w base' b r l := by
  obtain ⟨A, n, c, k1, k2, k3, k4, k5⟩ := h
  exact ⟨A, n, c, k1, own_base k2 hb, k3, Nat.le_trans hb k4, k5⟩
theorem MOZ.lt (h : MOZ w base b r l) : base ≤ b ∧ b < w.heap.size := by
  obtain ⟨A, n, c, k1, k2, k3, k4, k5, k6⟩ := h
  exact ⟨k4, k1.lt⟩
theorem MOZ.row (h : MOZ w base b r l) : ∀ g, r = some g → base ≤ g ∧ g < w.heap.size ∧ g ≠ b := by
  obtain ⟨A, n, c, k1, k2, k3, k4, k5, k6⟩ := h
  intro g hg
  have h1 := k2.lt g (by rw [k3, hg])
  refine ⟨h1.1, h1.2, ?_⟩
  rintro rfl
  rcases k2.2 with ⟨hv, _⟩ | ⟨g', cap, cur, hv, _, hgg, _⟩
  · rw [hv] at k3
    rw [← k3] at hg
    cases hg
  · have e : g' = g := by
      rw [hv] at k3
      rw [← k3] at hg
      injection hg
    subst e
    exact (Blk.ne_ (t := 119) (t' := 126) hgg k1 (by decide)) rfl
end
theorem findZ (b : Nat) (l : List (Key × Part)) (k : Key) (w : World) (h : MRZ w b l) :
    Calls Tryz.prog 52 #[.pointer (some ⟨b, 0, none⟩), .string ⟨k.toArray⟩] w fun e w' => e = .returned (.tuple #[.int .i64 (place l k : Int), .bool (there l k)]) ∧ Pu w w' := by
  obtain ⟨A, n, c, k1, k2, k5, k6⟩ := h
  have c0 : w.cell? ⟨b, 0, none⟩ = some (.slice A n c) := k1.cell 0
  go_enter Tryz.func52, Tryz.ntmps52
  go_wp2_with fail
  refine (searchZ A n c l k _ k2 (by omega) k6).mono ?_
  rintro e w1 ⟨rfl, h1⟩
  go_wp2
  go_ret2
  exact ⟨rfl, h1⟩
theorem newZ (w : World) : Calls Tryz.prog 47 #[] w fun e w' => ∃ b, e = .returned (.pointer (some ⟨b, 0, none⟩)) ∧ MOZ w' w.heap.size b none [] ∧ Pu w w' := by
  go_enter Tryz.func47, Tryz.ntmps47
  go_wp2
  go_ret
  exact ⟨w.heap.size, rfl, ⟨none, 0, 0, Blk.new _ _ _, World.ownsRow_nil _ _ _ _, rfl, Nat.le_refl _, by omega, List.Pairwise.nil⟩, (Pu.refl w).alloc _⟩
end
section
set_option linter.unusedVariables false
open Go.RowKit
def gvZ (l : List (Key × Part)) (k : Key) : Value := if there l k then (match l[place l k]? with | some (_, q) => q.val | none => .agg #[.bool false, .slice none 0 0]) else .agg #[.bool false, .slice none 0 0]
theorem getZ (b : Nat) (l : List (Key × Part)) (k : Key) (w : World) (h : MRZ w b l) :
    Calls Tryz.prog 43 #[.pointer (some ⟨b, 0, none⟩), .string ⟨k.toArray⟩] w fun e w' => e = .returned (.tuple #[gvZ l k, .bool (there l k)]) ∧ Pu w w' := by
  have hf := fun W p => findZ b l k W (h.pu (w' := W) p)
  have Hf := Lib.hid hf
  clear hf
  obtain ⟨A, n, c, k1, k2, k5, k6⟩ := h
  have TI := Lib.hid (there_iff k6 k)
  have hl := lenZ k2
  rcases hth : there l k with _ | _
  · have hv : gvZ l k = .agg #[.bool false, .slice none 0 0] := by rw [gvZ, hth]; rfl
    have Hv := Lib.hid hv
    rw [Hv.out]
    rw [hth] at Hf
    clear hv hth TI
    generalize place l k = P at *
    have pA : Pu w (w.alloc (.cells #[.bool false, .slice none 0 0] 30)) := (Pu.refl w).alloc _
    have kA : Blk (w.alloc (.cells #[.bool false, .slice none 0 0] 30)) w.heap.size 30 #[.bool false, .slice none 0 0] := Blk.new _ _ _
    go_enter Tryz.func43, Tryz.ntmps43
    go_wp2_with fail
    refine (Hf.out _ pA).mono ?_
    rintro e w1 ⟨rfl, h1⟩
    have kB := kA.pu h1
    have c0 := kB.cell 0
    have c1 := kB.cell 1
    have f0 := kB.frozen 0
    have f1 := kB.frozen 1
    have hlt : w.heap.size < w1.heap.size := kB.lt
    obtain ⟨_, _, _, rp⟩ := store_num kB false none 0 0
    have kC := ((kB.set_ 0 (.bool false)).set_ 1 (.slice none 0 0)).alloc (.cells #[.bool false, .slice none 0 0] 30)
    have r0 := kC.cell 0
    have r1 := kC.cell 1
    have PP := (rp _ (pA.trans h1) (Nat.le_refl _)).alloc (.cells #[.bool false, .slice none 0 0] 30)
    go_wp2
    exact bodyPost_ret (v := .tuple #[.agg #[.bool false, .slice none 0 0], .bool false]) (by simp [results, Tryz.results43, go_sem, r0, r1]) rfl ⟨rfl, PP⟩
  · obtain ⟨q, hq⟩ := TI.out.1 hth
    have hv : gvZ l k = q.val := by rw [gvZ, hth, hq]; rfl
    have Hv := Lib.hid hv
    rw [Hv.out]
    rw [hth] at Hf
    have hPl := (List.getElem?_eq_some_iff.1 hq).1
    clear hv hth TI
    generalize place l k = P at *
    obtain ⟨bb, off, rfl, hbw, hc1, hc2, hc3⟩ := atZ k2 hq
    obtain ⟨g, A1, n1, c1⟩ := q
    have pA : Pu w (w.alloc (.cells #[.bool false, .slice none 0 0] 30)) := (Pu.refl w).alloc _
    have kA : Blk (w.alloc (.cells #[.bool false, .slice none 0 0] 30)) w.heap.size 30 #[.bool false, .slice none 0 0] := Blk.new _ _ _
    clear hq
    go_enter Tryz.func43, Tryz.ntmps43
    go_wp2_with fail
    refine (Hf.out _ pA).mono ?_
    rintro e w1 ⟨rfl, h1⟩
    have c0 : w1.cell? ⟨b, 0, none⟩ = some (.slice (some ⟨bb, off, none⟩) n c) := (k1.pu (pA.trans h1)).cell 0
    have d1 := (pA.trans h1).cellv hc2
    have d2 := (pA.trans h1).cellv hc3
    have kB := kA.pu h1
    have e0 := kB.cell 0
    have e1 := kB.cell 1
    have f0 := kB.frozen 0
    have f1 := kB.frozen 1
    obtain ⟨r0, r1, _, rp⟩ := store_num kB g A1 n1 c1
    have PP := rp _ (pA.trans h1) (Nat.le_refl _)
    clear hc1 hc2 hc3
    go_wp2
    exact bodyPost_ret (v := .tuple #[.agg #[.bool g, .slice A1 n1 c1], .bool true]) (by simp [results, Tryz.results43, go_sem, r0, r1]) rfl ⟨rfl, PP⟩
theorem own_noneZ (w : World) (cs : Array Value) (h : cs.size = 0) {base : Nat} (hb : base ≤ w.heap.size) : (w.alloc (.cells cs 119)).ownsRow base 119 3 (.slice (some ⟨w.heap.size, 0, none⟩) 0 0) 0 [] := by
  refine ⟨by simp, .inr ⟨w.heap.size, 0, cs, rfl, hb, heap_alloc_new w _, Nat.le_refl _, Nat.zero_le _, by omega, ?_⟩⟩
  simp
set_option maxRecDepth 100000 in
theorem cloneZ (A : Option Addr) (n c : Nat) (l : List (Key × Part)) (w : World) (h : Sl w 3 A n c (kps vcZ l)) (hn : n ≤ 4000000) :
    Calls Tryz.prog 124 #[.slice A n c] w fun e w' => ∃ A' c', e = .returned (.slice A' n c') ∧ w'.ownsRow w.heap.size 119 3 (.slice A' n c') n (kps vcZ l) ∧ Pu w w' := by
  have hl := lenZ h
  have q73 : ∀ (w : World) (a : Option Addr) (n c n' c' : Nat), (binOp .eql 116 (.slice a n c) (.slice none n' c')).run Tryz.prog w = .ok (.bool a.isNone) w := fun w a n c n' c' => Lib.run_eql_slice_nil w _ _ a n c n' c' Tryz.underlying116
  rcases A with _ | a
  · have h0 : n = 0 := by
      rcases Nat.eq_zero_or_pos n with h0 | h0
      · exact h0
      · obtain ⟨b, off, e, _⟩ := h.2.2 h0
        cases e
    subst h0
    obtain rfl : l = [] := List.eq_nil_of_length_eq_zero hl
    go_enter Tryz.func124, Tryz.ntmps124
    go_wp2
    go_ret
    exact ⟨none, 0, rfl, World.ownsRow_nil _ _ _ _, Pu.refl _⟩
  · go_enter Tryz.func124, Tryz.ntmps124
    go_wp2_with (at_builtin; refine wpList_app eiPZ rfl (.tmp 5) (.tmp 6) rfl rfl rfl (own_noneZ w _ (by rfl) (Nat.le_refl _)) (h.pu ((Pu.refl _).alloc _)) (kps_one vcZ_one _) (by simp [maxLen]; omega) (by omega) (by simp) ?_)
    intro A1 c1 w2 hown hg
    have hP := pu_push ((Pu.refl w).alloc _) (own_noneZ w #[] rfl (Nat.le_refl _)) (Nat.le_refl _) hg
    go_wp2
    go_ret
    exact ⟨A1, c1, rfl, by simpa using hown, hP⟩
theorem pairsZ (b : Nat) (l : List (Key × Part)) (w : World) (h : MRZ w b l) :
    Calls Tryz.prog 81 #[.pointer (some ⟨b, 0, none⟩)] w fun e w' => ∃ A n c, e = .returned (.slice A n c) ∧ w'.ownsRow w.heap.size 119 3 (.slice A n c) n (kps vcZ l) ∧ n ≤ 1100000 ∧ Pu w w' := by
  obtain ⟨A, n, c, k1, k2, k5, k6⟩ := h
  have c0 : w.cell? ⟨b, 0, none⟩ = some (.slice A n c) := k1.cell 0
  go_enter Tryz.func81, Tryz.ntmps81
  go_wp2_with fail
  refine (cloneZ A n c l _ k2 (by omega)).mono ?_
  rintro e w1 ⟨A1, c1, rfl, ho, h1⟩
  go_wp2
  go_ret
  exact ⟨A1, n, c1, rfl, ho, k5, h1⟩
theorem copyZ (b : Nat) (l : List (Key × Part)) (w : World) (h : MRZ w b l) :
    Calls Tryz.prog 98 #[.pointer (some ⟨b, 0, none⟩)] w fun e w' => ∃ b' r', e = .returned (.pointer (some ⟨b', 0, none⟩)) ∧ MOZ w' w.heap.size b' r' l ∧ Pu w w' := by
  have hr := h.rise
  go_enter Tryz.func98, Tryz.ntmps98
  go_wp2_with fail
  refine (pairsZ b l _ h).mono ?_
  rintro e w1 ⟨A, n, c, rfl, ho, hn, h1⟩
  go_wp2
  go_ret
  exact ⟨w1.heap.size, _, rfl, ⟨A, n, c, Blk.new _ _ _, ho.alloc _, rfl, h1.size, hn, hr⟩, h1.alloc _⟩
end
section
set_option linter.unusedVariables false
open Go.RowKit
abbrev prsZ (l : List (Key × Part)) : List Value := kps vcZ l
theorem prsZ_len (l : List (Key × Part)) : (prsZ l).length = l.length * 3 := kps_len (s := 2) vcZ_len l
theorem prsZ_take (l : List (Key × Part)) (i : Nat) : prsZ (l.take i) = (prsZ l).take (i * 3) := kps_take (s := 2) vcZ_len l i
theorem prsZ_drop (l : List (Key × Part)) (i : Nat) : prsZ (l.drop i) = (prsZ l).drop (i * 3) := kps_drop (s := 2) vcZ_len l i
theorem prsZ_append (l l' : List (Key × Part)) : prsZ (l ++ l') = prsZ l ++ prsZ l' := kps_append l l'
theorem prsZ_one (l : List (Key × Part)) : ∀ u ∈ prsZ l, u.oneCell' = true := kps_one vcZ_one l
theorem putAtZ_get {l : List (Key × Part)} {i : Nat} {k : Key} {v : Part} (hi : i ≤ l.length) (j : Nat) :
    (prsZ (putAt l i k v))[j]? = if j < i * 3 then (prsZ l)[j]? else if j < i * 3 + 3 then [Value.string ⟨k.toArray⟩, .bool v.1, .slice v.2.1 v.2.2.1 v.2.2.2][j - i * 3]? else (prsZ l)[j - 3]? := putAt_get (s := 2) vcZ_len hi j
theorem takeAddZ {l : List (Key × Part)} {cur : Array Value} {n : Nat} (h : cur.toList.take (n * 3) = prsZ l) {j : Nat} (hj : j < n * 3) : cur[j]? = (prsZ l)[j]? := by
  rw [← h, List.getElem?_take, if_pos hj]
  simp
set_option maxHeartbeats 1000000 in
set_option maxRecDepth 100000 in
theorem deleteZ (base : Nat) (A : Option Addr) (n c i : Nat) (l : List (Key × Part)) (w : World) (h : w.ownsRow base 119 3 (.slice A n c) n (prsZ l)) (hi : i < n) (hn : n ≤ 1100000) :
    Calls Tryz.prog 147 #[.slice A n c, .int .i64 i, .int .i64 ((i : Int) + 1)] w fun e w' => e = .returned (.slice A (n - 1) c) ∧
      w'.ownsRow base 119 3 (.slice A (n - 1) c) (n - 1) (prsZ (l.take i ++ l.drop (i + 1))) ∧ Fr (fun k => (Value.slice A n c).ownBlock = some k) w w' := by
  have hl : l.length = n := lenZ (Sl.of_own h)
  obtain ⟨g, cur, rfl, hb, hg, hnc, hcm, hcs, htk⟩ := own_blk h (by omega)
  have hcm2 : c ≤ 9223372036854775807 := hcm
  obtain ⟨i0, hi0, hz0, hzs, hzb⟩ := info_parts eiPZ.info
  have hdl : (prsZ (l.drop (i + 1))).length = (n - (i + 1)) * 3 := by rw [prsZ_len]; simp [hl]
  obtain ⟨sa, hsa, hsa2⟩ : ∃ sa, (if c = i + 1 then some (⟨g, 0, none⟩ : Addr) else some ⟨g, (i + 1) * 3, none⟩) = some sa ∧ (c ≠ i + 1 → sa = ⟨g, (i + 1) * 3, none⟩) := by
    by_cases hc : c = i + 1
    · exact ⟨_, by rw [if_pos hc], fun h => absurd hc h⟩
    · exact ⟨_, by rw [if_neg hc], fun _ => rfl⟩
  have hsrc : ∀ j u, (prsZ (l.drop (i + 1)))[j]? = some u → w.drew.cell? (sa.add j) = some u := fun j u hu => by
    have hj := (List.getElem?_eq_some_iff.1 hu).1
    rw [hsa2 (by omega)]
    rw [Addr.add_lit, hg.drew.cell, takeAddZ htk (by omega)]
    rw [prsZ_drop, List.getElem?_drop] at hu
    exact hu
  obtain ⟨ds, hds⟩ : ∃ ds : Array Value, ds = (over cur.toList (i * 3) (prsZ (l.drop (i + 1)))).toArray := ⟨_, rfl⟩
  have hdsz : ds.size = c * 3 := by
    rw [hds, List.size_toArray, over_len _ _ _ (by rw [hdl, Array.length_toList]; omega), Array.length_toList, hcs]
  have happ : ∀ ty, (Builtin.append_ #[116, 116] ty #[.slice (some ⟨g, 0, none⟩) i c, .slice (some sa) (n - (i + 1)) (c - (i + 1))]).run Tryz.prog w.drew =
      .ok (.slice (some ⟨g, 0, none⟩) (n - 1) c) (w.drew.setRow g ds) := fun ty => by
    have := run_append_room (P := Tryz.prog) w.drew _ ty _ i0 eiPZ.under hi0 g i c cur hg sa (n - (i + 1)) (c - (i + 1)) (prsZ (l.drop (i + 1))) (by rw [hdl, hzs]) hsrc (prsZ_one _) (by omega) (by rw [hzs, hdl]; omega)
    rw [this, hds, hzs, show i + (n - (i + 1)) = n - 1 by omega]
    rfl
  have hg2 : Blk (w.drew.setRow g ds) g 119 ds := setRow_blk hg.drew ds
  obtain ⟨zs, hzl⟩ : ∃ zs : List Value, zs = (Builtin.zeroCells (Value.agg #[Value.string ⟨#[]⟩, .bool false, .slice none 0 0]).cells (n - (n - 1))).toList := ⟨_, rfl⟩
  have hzlen : zs.length = (n - (n - 1)) * 3 := by
    rw [hzl, Array.length_toList, size_zeroCells]
    rfl
  obtain ⟨es, hes⟩ : ∃ es : Array Value, es = (over ds.toList ((n - 1) * 3) zs).toArray := ⟨_, rfl⟩
  have hclr : ∀ ty, (Builtin.clear_ #[116] ty #[.slice (some ⟨g, (n - 1) * 3, none⟩) (n - (n - 1)) (c - (n - 1))]).run Tryz.prog (w.drew.setRow g ds) = .ok (.tuple #[]) ((w.drew.setRow g ds).setRow g es) := fun ty => by
    rw [hes, hzl]
    exact run_clear_blk (P := Tryz.prog) _ _ _ ty (.agg #[.string ⟨#[]⟩, .bool false, .slice none 0 0]) 3 eiPZ.under (fun w => by simp [zeroValue, typeInfo, hi0, hz0]) rfl (by simp [Value.cells, Value.oneCell']) g ((n - 1) * 3) (n - (n - 1)) (c - (n - 1)) (by omega) ds _ hg2 (by omega)
  have hg3 : Blk ((w.drew.setRow g ds).setRow g es) g 119 es := setRow_blk hg2 es
  have hesz : es.size = c * 3 := by
    rw [hes, List.size_toArray, over_len _ _ _ (by rw [hzlen, Array.length_toList]; omega), Array.length_toList, hdsz]
  have hown : ((w.drew.setRow g ds).setRow g es).ownsRow base 119 3 (.slice (some ⟨g, 0, none⟩) (n - 1) c) (n - 1) (prsZ (l.take i ++ l.drop (i + 1))) := by
    refine own_of_blk hb hg3 (by omega) hcm hesz (by rw [prsZ_len]; simp [hl]; omega) fun j hj => ?_
    have htl : (prsZ (l.take i)).length = i * 3 := by rw [prsZ_len]; simp [hl]; omega
    rw [hes, List.getElem?_toArray, over_get _ _ _ (by rw [hzlen, Array.length_toList]; omega), if_neg (by omega), Array.getElem?_toList, hds, List.getElem?_toArray, over_get _ _ _ (by rw [hdl, Array.length_toList]; omega), prsZ_append]
    by_cases c1 : j < i * 3
    · rw [if_neg (by omega), List.getElem?_append_left (by omega), Array.getElem?_toList, takeAddZ htk (by omega), prsZ_take, List.getElem?_take, if_pos c1]
    · rw [if_pos (by omega), List.getElem?_append_right (by omega), htl]
  have hfr : Fr (fun k => (Value.slice (some ⟨g, 0, none⟩) n c).ownBlock = some k) w ((w.drew.setRow g ds).setRow g es) := by
    have h1 := (Fr.refl (fun k => k = g) w).drew.trans (setRow_fr w.drew g ds)
    exact (h1.trans (setRow_fr _ g es)).mono (fun k _ e => by rw [e]; rfl)
  have hic : i ≤ c := by omega
  have hin : i + 1 ≤ n := by omega
  have hin2 : (i : Int) + 1 ≤ (n : Int) := by omega
  have h0i : (0 : Int) ≤ (i : Int) + 1 := by omega
  have hcn : ¬ (c = n - 1) := by omega
  have Hsa2 := Lib.hid hsa2
  have Hhap := Lib.hid happ
  have Hclr := Lib.hid hclr
  clear hsa2 hes hzl hzlen hds hdsz hesz hg2 hg3 hg htk hsrc hcs happ hclr hdl hl h hb
  have htn : ((i : Int) + 1).toNat = i + 1 := by omega
  have e1 : ((i : Int) == (i : Int) + 1) = false := by simp; omega
  go_enter Tryz.func147, Tryz.ntmps147
  go_wp2_with fail
  go_region_law (refine step_builtin2 (S := Builtin.append_) (fun _ _ _ _ => rfl) rfl (.tmp 22) (.tmp 25) _ rfl _ _ (by simp [Act.eval, Act.put]) (by simp [Act.eval, Act.put]) (Hhap.out _) ?_)
  go_wp2_with (simp only [Hclr.out])
  go_ret
  exact ⟨rfl, hown, hfr⟩
def InsertedZ (base : Nat) (A : Option Addr) (n c i : Nat) (l : List (Key × Part)) (k : Key) (v : Part) (w : World) (e : Ending) (w' : World) : Prop :=
  ∃ A' c', e = .returned (.slice A' (n + 1) c') ∧ w'.ownsRow base 119 3 (.slice A' (n + 1) c') (n + 1) (prsZ (putAt l i k v)) ∧ ((Value.slice A' (n + 1) c').ownBlock = (Value.slice A n c).ownBlock ∨ ∃ g, (Value.slice A' (n + 1) c').ownBlock = some g ∧ w.heap.size ≤ g) ∧ Fr (fun j => (Value.slice A n c).ownBlock = some j) w w'
set_option maxHeartbeats 1000000 in
set_option maxRecDepth 100000 in
theorem insert_roomZ (base : Nat) (g n c i vb : Nat) (l : List (Key × Part)) (k : Key) (v : Part) (w : World) (h : w.ownsRow base 119 3 (.slice (some ⟨g, 0, none⟩) n c) n (prsZ l)) (hi : i < n) (hn : n ≤ 1100000)
    (hv : Blk w vb 119 #[.string ⟨k.toArray⟩, .bool v.1, .slice v.2.1 v.2.2.1 v.2.2.2]) (hvg : vb ≠ g) (hroom : n + 1 ≤ c) :
    Calls Tryz.prog 53 #[.slice (some ⟨g, 0, none⟩) n c, .int .i64 i, .slice (some ⟨vb, 0, none⟩) 1 1] w (InsertedZ base (some ⟨g, 0, none⟩) n c i l k v w) := by
  have hl : l.length = n := lenZ (Sl.of_own h)
  obtain ⟨g', cur, hA, hb, hg, hnc, hcm, hcs, htk⟩ := own_blk h (by omega)
  obtain rfl : g' = g := by injection hA with hA; injection hA with hA; exact hA.symm
  have hcm2 : c ≤ 9223372036854775807 := hcm
  obtain ⟨i0, hi0, hz0, hzs, hzb⟩ := info_parts eiPZ.info
  have hsz2 : (Tryz.prog.info? 119).map (·.size) = some 3 := by kernel_rfl
  have hdl : (prsZ (l.drop i)).length = (n - i) * 3 := by rw [prsZ_len]; simp [hl]
  -- the first copy
  obtain ⟨ds, hds⟩ : ∃ ds : Array Value, ds = (over cur.toList ((i + 1) * 3) (prsZ (l.drop i))).toArray := ⟨_, rfl⟩
  have hdsz : ds.size = c * 3 := by
    rw [hds, List.size_toArray, over_len _ _ _ (by rw [hdl, Array.length_toList]; omega), Array.length_toList, hcs]
  have hmin1 : Nat.min (n + 1 - i) (n - i) = n - i := by simp only [Nat.min_def]; split <;> omega
  have hcp1 : ∀ ty dc sc, (Builtin.copy_ #[116, 116] ty #[.slice (some ⟨g', (i + 1) * 3, none⟩) (n - i) dc, .slice (some ⟨g', i * 3, none⟩) (n + 1 - i) sc]).run Tryz.prog w.drew =
      .ok (goInt ((n - i : Nat) : Int)) (w.drew.setRow g' ds) := fun ty dc sc => by
    have := run_copy_blk (P := Tryz.prog) w.drew 116 116 ty _ 3 g' ((i + 1) * 3) (n - i) dc ⟨g', i * 3, none⟩ (n + 1 - i) sc cur _ (prsZ (l.drop i)) eiPZ.under hsz2 hg.drew (by rw [hdl, hmin1]) (fun j u hu => by
      have hj := (List.getElem?_eq_some_iff.1 hu).1
      rw [Addr.add_lit, hg.drew.cell, takeAddZ htk (by omega)]
      rw [prsZ_drop, List.getElem?_drop] at hu
      exact hu) (by omega) (prsZ_one _)
    rw [this, hds, hmin1]
  have hg2 : Blk (w.drew.setRow g' ds) g' 119 ds := setRow_blk hg.drew ds
  have hv2 : Blk (w.drew.setRow g' ds) vb 119 #[.string ⟨k.toArray⟩, .bool v.1, .slice v.2.1 v.2.2.1 v.2.2.2] := hv.drew.fr (setRow_fr w.drew g' ds) hvg
  -- the second copy
  obtain ⟨es, hes⟩ : ∃ es : Array Value, es = (over ds.toList (i * 3) [Value.string ⟨k.toArray⟩, .bool v.1, .slice v.2.1 v.2.2.1 v.2.2.2]).toArray := ⟨_, rfl⟩
  have hesz : es.size = c * 3 := by
    rw [hes, List.size_toArray, over_len _ _ _ (by rw [Array.length_toList]; simp; omega), Array.length_toList, hdsz]
  have hmin2 : Nat.min 1 (n + 1 - i) = 1 := by simp only [Nat.min_def]; split <;> omega
  have hcp2 : ∀ ty dc sc, (Builtin.copy_ #[116, 116] ty #[.slice (some ⟨g', i * 3, none⟩) (n + 1 - i) dc, .slice (some ⟨vb, 0, none⟩) 1 sc]).run Tryz.prog (w.drew.setRow g' ds) =
      .ok (goInt ((1 : Nat) : Int)) ((w.drew.setRow g' ds).setRow g' es) := fun ty dc sc => by
    have := run_copy_blk (P := Tryz.prog) (w.drew.setRow g' ds) 116 116 ty _ 3 g' (i * 3) (n + 1 - i) dc ⟨vb, 0, none⟩ 1 sc ds _ [Value.string ⟨k.toArray⟩, .bool v.1, .slice v.2.1 v.2.2.1 v.2.2.2] eiPZ.under hsz2 hg2 (by rw [hmin2]; rfl) (fun j u hu => by
      rw [Addr.add_lit, Nat.zero_add, hv2.cell, ← hu]
      simp) (by simp; omega) (by simp [Value.oneCell'])
    rw [this, hes, hmin2]
  have hg3 : Blk ((w.drew.setRow g' ds).setRow g' es) g' 119 es := setRow_blk hg2 es
  have hown : ((w.drew.setRow g' ds).setRow g' es).ownsRow base 119 3 (.slice (some ⟨g', 0, none⟩) (n + 1) c) (n + 1) (prsZ (putAt l i k v)) := by
    refine own_of_blk hb hg3 (by omega) hcm hesz (by rw [prsZ_len, putAt_len (by omega), hl]) fun j hj => ?_
    rw [putAtZ_get (by omega), hes, List.getElem?_toArray, over_get _ _ _ (by rw [Array.length_toList]; simp; omega), hds, Array.getElem?_toList, List.getElem?_toArray, over_get _ _ _ (by rw [hdl, Array.length_toList]; omega)]
    by_cases c1 : j < i * 3
    · rw [if_neg (by omega), if_neg (by omega), if_pos c1, Array.getElem?_toList, takeAddZ htk (by omega)]
    · by_cases c2 : j < i * 3 + 3
      · rw [if_pos (by simp; omega), if_neg c1, if_pos c2]
      · rw [if_neg (by simp; omega), if_pos (by omega), if_neg c1, if_neg c2, prsZ_drop, List.getElem?_drop]
        congr 1
        omega
  have hfr : Fr (fun j => (Value.slice (some ⟨g', 0, none⟩) n c).ownBlock = some j) w ((w.drew.setRow g' ds).setRow g' es) := by
    have h1 := (Fr.refl (fun j => j = g') w).drew.trans (setRow_fr w.drew g' ds)
    exact (h1.trans (setRow_fr _ g' es)).mono (fun j _ e => by rw [e]; rfl)
  have hov : ∀ lb cb, (callFunc 88 #[.slice (some ⟨vb, 0, none⟩) 1 1, .slice (some ⟨g', (i + 1) * 3, none⟩) lb cb]).run Tryz.prog w = .ok (.value (.bool false)) w := fun lb cb => by
    rw [run_callFunc_extern Tryz.func88 (by kernel_rfl) (by kernel_rfl) (by kernel_rfl) (e := Extern.SlicesOverlaps.overlaps #[116, 116] #[4]) (by kernel_rfl),
      Lib.run_overlaps_apart w 116 4 119 eiPZ.under 3 (fun w => by simp [sizeOf, typeInfo, hi0, hzs]) ⟨vb, 0, none⟩ ⟨g', (i + 1) * 3, none⟩ 1 1 lb cb hvg 119 119 3 (c * 3) hv.shape (by rw [hg.shape, hcs]) (by omega) (hv.frozen 0) (hv.frozen 3)]
    rfl
  have Hov := Lib.hid hov
  have Hcp1 := Lib.hid hcp1
  have Hcp2 := Lib.hid hcp2
  have e1 : ((i : Int) == (n : Int)) = false := by simp; omega
  have e2 : ¬ (c = i) := by omega
  have e3 : ¬ (c = i + 1) := by omega
  have e4 : decide ((n : Int) + 1 > (c : Int)) = false := by simp; omega
  have e5 : decide ((c : Int) < (n : Int) + 1) = false := by simp; omega
  have hin : i ≤ n := by omega
  have hw1 : IntKind.i64.wrap ((i : Int) + 1) = (i : Int) + 1 := IntWalk.i64_in _ (by omega)
  have hw2 : IntKind.i64.wrap ((n : Int) + 1) = (n : Int) + 1 := IntWalk.i64_in _ (by omega)
  have hb1 : (0 : Int) ≤ (i : Int) + 1 := by omega
  have hb2 : (i : Int) + 1 ≤ (n : Int) + 1 := by omega
  have hb3 : (i : Int) ≤ (n : Int) + 1 := by omega
  have htn : ((i : Int) + 1).toNat = i + 1 := by omega
  have htn2 : ((n : Int) + 1).toNat = n + 1 := by omega
  clear hes hesz hds hdsz hg hg2 hg3 hv hv2 htk hcs hov hcp1 hcp2 hdl hl h hb hmin1 hmin2
  go_enter Tryz.func53, Tryz.ntmps53
  go_wp2_with (simp only [Hov.out])
  go_region_law (refine step_builtin2 (S := Builtin.copy_) (fun _ _ _ _ => rfl) rfl (.tmp 73) (.tmp 76) _ rfl _ _ (by simp [Act.eval, Act.put]) (by simp [Act.eval, Act.put]) (Hcp1.out _ (c - (i + 1)) (c - i)) ?_)
  go_wp2_with (simp only [Hcp2.out])
  go_ret
  exact ⟨some ⟨g', 0, none⟩, c, rfl, hown, .inl rfl, hfr⟩
set_option maxHeartbeats 1000000 in
set_option maxRecDepth 100000 in
theorem insert_endZ (base : Nat) (A : Option Addr) (n c vb : Nat) (l : List (Key × Part)) (k : Key) (v : Part) (w : World) (h : w.ownsRow base 119 3 (.slice A n c) n (prsZ l)) (hn : n ≤ 1100000) (hbase : base ≤ w.heap.size)
    (hv : Blk w vb 119 #[.string ⟨k.toArray⟩, .bool v.1, .slice v.2.1 v.2.2.1 v.2.2.2]) :
    Calls Tryz.prog 53 #[.slice A n c, .int .i64 n, .slice (some ⟨vb, 0, none⟩) 1 1] w (InsertedZ base A n c n l k v w) := by
  have hl : l.length = n := lenZ (Sl.of_own h)
  have hle := own_le h
  have hcm : c ≤ 9223372036854775807 := hle.2
  have hv1 : Sl w 3 (some ⟨vb, 0, none⟩) 1 1 [Value.string ⟨k.toArray⟩, .bool v.1, .slice v.2.1 v.2.2.1 v.2.2.2] := Sl.of_blk hv 3 1 1 rfl (Nat.le_refl _)
  have fin : ∀ A1 c1 w2, w2.ownsRow base 119 3 (.slice A1 (n + 1) c1) (n + 1) (prsZ l ++ [Value.string ⟨k.toArray⟩, .bool v.1, .slice v.2.1 v.2.2.1 v.2.2.2]) → w.grownBy w2 (Value.slice A n c).ownBlock → ((Value.slice A1 (n + 1) c1).ownBlock = (Value.slice A n c).ownBlock ∨ ∃ g, (Value.slice A1 (n + 1) c1).ownBlock = some g ∧ w.heap.size ≤ g) → InsertedZ base A n c n l k v w (.returned (.slice A1 (n + 1) c1)) w2 := fun A1 c1 w2 h1 h2 h3 => by
    refine ⟨A1, c1, rfl, ?_, h3, Fr.of_grown h2⟩
    have e : prsZ (putAt l n k v) = prsZ l ++ [Value.string ⟨k.toArray⟩, .bool v.1, .slice v.2.1 v.2.2.1 v.2.2.2] := by
      rw [putAt, List.take_of_length_le (by omega), List.drop_eq_nil_of_le (by omega), prsZ_append]
      rfl
    rw [e]
    exact h1
  have Fin := Lib.hid fin
  have e1 : ((n : Int) == (n : Int)) = true := by simp
  go_enter Tryz.func53, Tryz.ntmps53
  go_wp2_with (at_builtin; refine wpList_appL eiPZ rfl (.tmp 23) (.tmp 24) rfl rfl rfl h hv1 (by simp [Value.oneCell']) (by omega) (by simp [maxLen]; omega) (by omega) hbase ?_)
  all_goals
    intro g1 c1 w2 ho hg hw
    have hw' : (Value.slice (some ⟨g1, 0, none⟩) (n + 1) c1).ownBlock = (Value.slice A n c).ownBlock ∨ ∃ g, (Value.slice (some ⟨g1, 0, none⟩) (n + 1) c1).ownBlock = some g ∧ w.heap.size ≤ g := by
      rcases hw with hw | hw
      · exact .inl (hw.symm.trans (by cases A <;> rfl))
      · exact .inr ⟨g1, rfl, by omega⟩
    go_wp2
    go_ret
    first | exact Fin.out _ _ _ ho hg hw' | exact Fin.out _ _ _ ho (by cases A <;> exact hg) hw'
set_option maxHeartbeats 1600000 in
set_option maxRecDepth 100000 in
theorem insert_growZ (base : Nat) (g n i vb : Nat) (l : List (Key × Part)) (k : Key) (v : Part) (w : World) (h : w.ownsRow base 119 3 (.slice (some ⟨g, 0, none⟩) n n) n (prsZ l)) (hi : i < n) (hn : n ≤ 1100000) (hbase : base ≤ w.heap.size)
    (hv : Blk w vb 119 #[.string ⟨k.toArray⟩, .bool v.1, .slice v.2.1 v.2.2.1 v.2.2.2]) :
    Calls Tryz.prog 53 #[.slice (some ⟨g, 0, none⟩) n n, .int .i64 i, .slice (some ⟨vb, 0, none⟩) 1 1] w (InsertedZ base (some ⟨g, 0, none⟩) n n i l k v w) := by
  have hl : l.length = n := lenZ (Sl.of_own h)
  obtain ⟨g', cur, hA, hb, hg, hnc, hcm, hcs, htk⟩ := own_blk h (by omega)
  obtain rfl : g' = g := by injection hA with hA; injection hA with hA; exact hA.symm
  obtain ⟨i0, hi0, hz0, hzs, hzb⟩ := info_parts eiPZ.info
  have hsz2 : (Tryz.prog.info? 119).map (·.size) = some 3 := by kernel_rfl
  have hdl : (prsZ (l.drop i)).length = (n - i) * 3 := by rw [prsZ_len]; simp [hl]
  have htl : (prsZ (l.take i)).length = i * 3 := by rw [prsZ_len]; simp [hl]; omega
  have hold : (Builtin.firstCells i0.size i (.slice (some ⟨g', 0, none⟩) i n)).run Tryz.prog w.drew = .ok (prsZ (l.take i)).toArray w.drew := by
    rw [hzs]
    exact run_firstCells_some w.drew 3 i ⟨g', 0, none⟩ i n (prsZ (l.take i)) (by rw [htl]) (fun j u hu => by
      have hj := (List.getElem?_eq_some_iff.1 hu).1
      rw [Addr.add_lit, Nat.zero_add, hg.drew.cell, takeAddZ htk (by omega)]
      rw [prsZ_take, List.getElem?_take, if_pos (by omega)] at hu
      exact hu)
  have hsum : i + (n + 1 - i) = n + 1 := by omega
  have hkk : (n : Int) + 1 - (i : Int) = ((n + 1 - i : Nat) : Int) := by omega
  have hG1 := grownCap_ge w (n + 1) n 119
  have hG2 : grownCap w (n + 1) n 119 ≤ maxLen := grownCap_le_maxLen w (n + 1) n _ (by simp [maxLen]; omega)
  have hrz0 : ∀ ty, _ := fun ty => Lib.run_append_grow_zeros (P := Tryz.prog) w 116 3 ty 119 i0 _ .i64 .i64 eiPZ.under Tryz.underlying3 hi0 hz0 (some ⟨g', 0, none⟩) i n (prsZ (l.take i)) hold (n + 1 - i) (by omega) (by omega) (by omega) (by omega) (by rw [hzb]; omega) (by rw [hzb, hsum]; exact growslice_fits (by omega) (by omega))
  rw [hsum, ← hkk] at hrz0
  generalize hG : grownCap w (n + 1) n 119 = G at *
  obtain ⟨ROW, hROW⟩ : ∃ ROW : Array Value, ROW = (prsZ (l.take i)).toArray ++ Builtin.zeroCells (Value.agg #[Value.string ⟨#[]⟩, .bool false, .slice none 0 0]).cells (n + 1 - i) ++ Builtin.zeroCells (Value.agg #[Value.string ⟨#[]⟩, .bool false, .slice none 0 0]).cells (G - (n + 1)) := ⟨_, rfl⟩
  rw [← hROW] at hrz0
  obtain ⟨W1, hW1⟩ : ∃ W1, W1 = (w.alloc (.cells ROW 119)).drew := ⟨_, rfl⟩
  have hrz1 : ∀ ty, (Builtin.append_ #[116, 3] ty #[.slice (some ⟨g', 0, none⟩) i n, .int .i64 ((n : Int) + 1 - (i : Int))]).run Tryz.prog w = .ok (.slice (some ⟨w.heap.size, 0, none⟩) (n + 1) G) W1 := fun ty => by
    rw [hW1]
    exact hrz0 ty
  clear hrz0
  have hzc : (Value.agg #[Value.string ⟨#[]⟩, .bool false, .slice none 0 0]).cells.size = 3 := rfl
  have hRs : ROW.size = G * 3 := by
    rw [hROW]
    simp only [Array.size_append, size_zeroCells, List.size_toArray, htl, hzc]
    omega
  obtain ⟨q, hq⟩ : ∃ q, q = w.heap.size := ⟨_, rfl⟩
  rw [← hq] at hrz1
  have hB1 : Blk W1 q 119 ROW := by rw [hW1, hq]; exact (Blk.new w _ _).drew
  have hP1 : Pu w W1 := by rw [hW1]; exact ((Pu.refl w).alloc _).drew
  have hgq : g' ≠ q := by have := hg.lt; omega
  have hvq : vb ≠ q := by have := hv.lt; omega
  -- the first copy
  obtain ⟨ds, hds⟩ : ∃ ds : Array Value, ds = (over ROW.toList (i * 3) [Value.string ⟨k.toArray⟩, .bool v.1, .slice v.2.1 v.2.2.1 v.2.2.2]).toArray := ⟨_, rfl⟩
  have hdsz : ds.size = G * 3 := by
    rw [hds, List.size_toArray, over_len _ _ _ (by rw [Array.length_toList]; simp; omega), Array.length_toList, hRs]
  have hmin1 : Nat.min 1 (n + 1 - i) = 1 := by simp only [Nat.min_def]; split <;> omega
  have hcp1 : ∀ ty dc sc, (Builtin.copy_ #[116, 116] ty #[.slice (some ⟨q, i * 3, none⟩) (n + 1 - i) dc, .slice (some ⟨vb, 0, none⟩) 1 sc]).run Tryz.prog W1 =
      .ok (goInt ((1 : Nat) : Int)) (W1.setRow q ds) := fun ty dc sc => by
    have := run_copy_blk (P := Tryz.prog) W1 116 116 ty _ 3 q (i * 3) (n + 1 - i) dc ⟨vb, 0, none⟩ 1 sc ROW _ [Value.string ⟨k.toArray⟩, .bool v.1, .slice v.2.1 v.2.2.1 v.2.2.2] eiPZ.under hsz2 hB1 (by rw [hmin1]; rfl) (fun j u hu => by
      rw [Addr.add_lit, Nat.zero_add, (hv.pu hP1).cell, ← hu]
      simp) (by simp; omega) (by simp [Value.oneCell'])
    rw [this, hds, hmin1]
  have hB2 : Blk (W1.setRow q ds) q 119 ds := setRow_blk hB1 ds
  have hg2 : Blk (W1.setRow q ds) g' 119 cur := (hg.pu hP1).fr (setRow_fr W1 q ds) hgq
  -- the second copy
  obtain ⟨es, hes⟩ : ∃ es : Array Value, es = (over ds.toList ((i + 1) * 3) (prsZ (l.drop i))).toArray := ⟨_, rfl⟩
  have hesz : es.size = G * 3 := by
    rw [hes, List.size_toArray, over_len _ _ _ (by rw [hdl, Array.length_toList]; omega), Array.length_toList, hdsz]
  have hmin2 : Nat.min (n - i) (n - i) = n - i := by simp only [Nat.min_def]; split <;> omega
  have hcp2 : ∀ ty dc sc, (Builtin.copy_ #[116, 116] ty #[.slice (some ⟨q, (i + 1) * 3, none⟩) (n - i) dc, .slice (some ⟨g', i * 3, none⟩) (n - i) sc]).run Tryz.prog (W1.setRow q ds).drew =
      .ok (goInt ((n - i : Nat) : Int)) ((W1.setRow q ds).drew.setRow q es) := fun ty dc sc => by
    have := run_copy_blk (P := Tryz.prog) (W1.setRow q ds).drew 116 116 ty _ 3 q ((i + 1) * 3) (n - i) dc ⟨g', i * 3, none⟩ (n - i) sc ds _ (prsZ (l.drop i)) eiPZ.under hsz2 hB2.drew (by rw [hdl, hmin2]) (fun j u hu => by
      have hj := (List.getElem?_eq_some_iff.1 hu).1
      rw [Addr.add_lit, hg2.drew.cell, takeAddZ htk (by omega)]
      rw [prsZ_drop, List.getElem?_drop] at hu
      exact hu) (by omega) (prsZ_one _)
    rw [this, hes, hmin2]
  have hB3 : Blk ((W1.setRow q ds).drew.setRow q es) q 119 es := setRow_blk hB2.drew es
  have hown : ((W1.setRow q ds).drew.setRow q es).ownsRow base 119 3 (.slice (some ⟨q, 0, none⟩) (n + 1) G) (n + 1) (prsZ (putAt l i k v)) := by
    refine own_of_blk (by omega) hB3 (by omega) hG2 hesz (by rw [prsZ_len, putAt_len (by omega), hl]) fun j hj => ?_
    rw [putAtZ_get (by omega), hes, List.getElem?_toArray, over_get _ _ _ (by rw [hdl, Array.length_toList]; omega), hds, Array.getElem?_toList, List.getElem?_toArray, over_get _ _ _ (by rw [Array.length_toList]; simp; omega)]
    by_cases c1 : j < i * 3
    · rw [if_neg (by omega), if_neg (by omega), if_pos c1, Array.getElem?_toList, hROW, Array.getElem?_append_left (by simp [size_zeroCells, htl]; omega), Array.getElem?_append_left (by simp [htl]; omega), List.getElem?_toArray, prsZ_take, List.getElem?_take, if_pos c1]
    · by_cases c2 : j < i * 3 + 3
      · rw [if_neg (by omega), if_pos (by simp; omega), if_neg c1, if_pos c2]
      · rw [if_pos (by omega), if_neg c1, if_neg c2]
        show (prsZ (l.drop i))[j - (i + 1) * 3]? = _
        rw [prsZ_drop, List.getElem?_drop]
        congr 1
        omega
  have hpu : Pu w ((W1.setRow q ds).drew.setRow q es) := by
    have h1 : Fr (fun j => j = q) W1 ((W1.setRow q ds).drew.setRow q es) := ((setRow_fr W1 q ds).drew).trans (setRow_fr (W1.setRow q ds).drew q es)
    exact hP1.step h1 (fun j e => by omega)
  have Hrz := Lib.hid hrz1
  have Hcp1 := Lib.hid hcp1
  have Hcp2 := Lib.hid hcp2
  subst hW1 hq
  have e1 : ((i : Int) == (n : Int)) = false := by simp; omega
  have e2 : ¬ (n = i) := by omega
  have e4 : decide ((n : Int) + 1 > (n : Int)) = true := by simp; omega
  have e5 : decide ((n : Int) < (n : Int) + 1) = true := by simp; omega
  have e6 : ¬ (G = i) := by omega
  have e7 : ¬ (G = i + 1) := by omega
  have hG63 : G ≤ 9223372036854775807 := hG2
  have hin : i ≤ n := by omega
  have hw1 : IntKind.i64.wrap ((i : Int) + 1) = (i : Int) + 1 := IntWalk.i64_in _ (by omega)
  have hw2 : IntKind.i64.wrap ((n : Int) + 1) = (n : Int) + 1 := IntWalk.i64_in _ (by omega)
  have hw3 : IntKind.i64.wrap ((n : Int) + 1 - (i : Int)) = (n : Int) + 1 - (i : Int) := IntWalk.i64_in _ (by omega)
  have hb1 : (0 : Int) ≤ (i : Int) + 1 := by omega
  have hb2 : (i : Int) + 1 ≤ (n : Int) + 1 := by omega
  have hb3 : (i : Int) ≤ (n : Int) + 1 := by omega
  have hb4 : (i : Int) ≤ (n : Int) := by omega
  have htn : ((i : Int) + 1).toNat = i + 1 := by omega
  clear hkk hes hesz hds hdsz hg hg2 hv htk hcs hrz1 hcp1 hcp2 hdl htl hl h hb hmin1 hmin2 hB1 hB2 hB3 hROW hRs hold hsum hzc
  go_enter Tryz.func53, Tryz.ntmps53
  go_wp2_with (first
    | (at_builtin; refine Lib.wpList_append_run _ rfl _ _ _ _ rfl _ _ rfl rfl _ _ (Hrz.out _) ?_)
    | (simp only [Hcp1.out]))
  go_region_law (refine step_builtin2 (S := Builtin.copy_) (fun _ _ _ _ => rfl) rfl (.tmp 50) (.tmp 53) _ rfl _ _ (by simp [Act.eval, Act.put]) (by simp [Act.eval, Act.put]) (Hcp2.out _ (G - (i + 1)) (n - i)) ?_)
  go_wp2
  go_ret
  exact ⟨_, _, rfl, hown, .inr ⟨_, rfl, Nat.le_refl _⟩, hpu.fr⟩
theorem insertZ (base : Nat) (A : Option Addr) (n c i vb : Nat) (l : List (Key × Part)) (k : Key) (v : Part) (w : World) (h : w.ownsRow base 119 3 (.slice A n c) n (prsZ l)) (hi : i ≤ n) (hn : n ≤ 1100000) (hbase : base ≤ w.heap.size)
    (hv : Blk w vb 119 #[.string ⟨k.toArray⟩, .bool v.1, .slice v.2.1 v.2.2.1 v.2.2.2]) (hvA : ∀ a, A = some a → a.block ≠ vb) :
    Calls Tryz.prog 53 #[.slice A n c, .int .i64 i, .slice (some ⟨vb, 0, none⟩) 1 1] w (InsertedZ base A n c i l k v w) := by
  by_cases hin : i = n
  · subst hin
    exact insert_endZ base A i c vb l k v w h hn hbase hv
  · obtain ⟨g, cur, rfl, hb, hg, hnc, hcm, hcs, htk⟩ := own_blk h (by omega)
    by_cases hroom : n + 1 ≤ c
    · exact insert_roomZ base g n c i vb l k v w h (by omega) hn hv (fun e => hvA _ rfl e.symm) hroom
    · obtain rfl : c = n := by omega
      exact insert_growZ base g c i vb l k v w h (by omega) hn hbase hv
end
section
set_option linter.unusedVariables false
open Go.RowKit
theorem setAtZ_get {l : List (Key × Part)} {i : Nat} {k : Key} {u v : Part} (hi : l[i]? = some (k, u)) (j : Nat) :
    (prsZ (l.take i ++ (k, v) :: l.drop (i + 1)))[j]? = if i * 3 < j ∧ j < i * 3 + 3 then (vcZ v)[j - i * 3 - 1]? else (prsZ l)[j]? := setAt_get (s := 2) vcZ_len hi j
theorem own_setZ {w : World} {base n c g : Nat} {l : List (Key × Part)} {i : Nat} {k : Key} {u v : Part} (h : w.ownsRow base 119 3 (.slice (some ⟨g, 0, none⟩) n c) n (prsZ l)) (hi : l[i]? = some (k, u)) :
    ((w.setCell ⟨g, i * 3 + 1, none⟩ (.bool v.1)).setCell ⟨g, i * 3 + 1 + 1, none⟩ (.slice v.2.1 v.2.2.1 v.2.2.2)).ownsRow base 119 3 (.slice (some ⟨g, 0, none⟩) n c) n (prsZ (l.take i ++ (k, v) :: l.drop (i + 1))) := by
  have hl : l.length = n := lenZ (Sl.of_own h)
  have hil := (List.getElem?_eq_some_iff.1 hi).1
  obtain ⟨g', cur, hA, hb, hg, hnc, hcm, hcs, htk⟩ := own_blk h (by omega)
  obtain rfl : g' = g := by injection hA with hA; injection hA with hA; exact hA.symm
  refine own_of_blk hb ((hg.set_ (i * 3 + 1) (.bool v.1)).set_ (i * 3 + 1 + 1) (.slice v.2.1 v.2.2.1 v.2.2.2)) hnc hcm (by simp [hcs]) (by rw [prsZ_len]; simp; omega) fun j hj => ?_
  rw [setAtZ_get hi]
  by_cases e2 : j = i * 3 + 1 + 1
  · subst e2
    rw [if_pos (by omega), Array.getElem?_setIfInBounds_self_of_lt (by simp; omega), show i * 3 + 1 + 1 - i * 3 - 1 = 1 by omega]
    rfl
  · rw [Array.getElem?_setIfInBounds_ne (fun h => e2 h.symm)]
    by_cases e : j = i * 3 + 1
    · subst e
      rw [if_pos (by omega), Array.getElem?_setIfInBounds_self_of_lt (by omega), show i * 3 + 1 - i * 3 - 1 = 0 by omega]
      rfl
    · rw [if_neg (by omega), Array.getElem?_setIfInBounds_ne (fun h => e h.symm), takeAddZ htk hj]
theorem own_nebZ {w : World} {base k n b : Nat} {e t : TypeId} {v : Value} {xs : List Value} {cs : Array Value} (h : w.ownsRow base e k v n xs) (hb : Blk w b t cs) (hne : e ≠ t) : ∀ g, v.ownBlock = some g → g ≠ b := by
  intro g hg
  rcases h.2 with ⟨rfl, _⟩ | ⟨g', cap, cur, rfl, _, hgg, _⟩
  · cases hg
  · injection hg with hg
    simp only at hg
    subst hg
    exact Blk.ne_ (t := e) (t' := t) hgg hb hne
set_option maxHeartbeats 2000000 in
set_option maxRecDepth 100000 in
theorem putZ (base b : Nat) (r : Option Nat) (l : List (Key × Part)) (k : Key) (v : Part) (w : World) (h : MOZ w base b r l) (hl : l.length < 1100000) :
    Calls Tryz.prog 21 #[.pointer (some ⟨b, 0, none⟩), .string ⟨k.toArray⟩, .agg #[.bool v.1, .slice v.2.1 v.2.2.1 v.2.2.2]] w fun e w' => e = .returned (.bool (!there l k)) ∧ ∃ r', MOZ w' base b r' (putM l k v) ∧ (r' = r ∨ ∃ g, r' = some g ∧ w.heap.size ≤ g) ∧ Fr (fun j => j = b ∨ r = some j) w w' := by
  have hf := fun W p => findZ b l k W (h.mr.pu (w' := W) p)
  have Hf := Lib.hid hf
  clear hf
  have hrow := h.row
  have hlt := h.lt
  obtain ⟨A, n, c, k1, k2, k3, k4, k5, k6⟩ := h
  have hln : l.length = n := lenZ (Sl.of_own k2)
  have TI := there_iff k6 k
  have hpl := place_le l k
  have hpr := putM_rise k6 k v
  have hpM : putM l k v = if there l k then l.take (place l k) ++ (k, v) :: l.drop (place l k + 1) else l.take (place l k) ++ (k, v) :: l.drop (place l k) := rfl
  generalize hM : putM l k v = M at *
  generalize hth : there l k = th at *
  generalize hP : place l k = P at *
  clear hM hth hP
  obtain ⟨vg, vA, vn, vcc⟩ := v
  have pB : Pu w (w.alloc (.cells #[.bool vg, .slice vA vn vcc] 30)) := (Pu.refl w).alloc _
  have kB : Blk (w.alloc (.cells #[.bool vg, .slice vA vn vcc] 30)) w.heap.size 30 #[.bool vg, .slice vA vn vcc] := Blk.new _ _ _
  rcases th with _ | _
  · have HM := Lib.hid (show M = putAt l P k (vg, vA, vn, vcc) from hpM)
    have Hrow := Lib.hid hrow
    clear hpM hrow TI
    go_enter Tryz.func21, Tryz.ntmps21
    go_wp2_with fail
    refine (Hf.out _ pB).mono ?_
    rintro e w1 ⟨rfl, h1⟩
    have hkB := h1
    replace h1 := pB.trans h1
    have c0 : w1.cell? ⟨b, 0, none⟩ = some (.slice A n c) := (k1.pu h1).cell 0
    have hsz := h1.size
    have ho1 := own_pu k2 h1
    have hA : ∀ a, A = some a → a.block ≠ w1.heap.size := fun a ha => by
      have := ho1.lt a.block (by rw [ha]; rfl)
      omega
    have HA := Lib.hid hA
    clear hA
    have kB1 : Blk w1 w.heap.size 30 #[.bool vg, .slice vA vn vcc] := kB.pu hkB
    have d0 : w1.cell? ⟨w.heap.size, 0, none⟩ = some (.bool vg) := kB1.cell 0
    have d1 : w1.cell? ⟨w.heap.size, 1, none⟩ = some (.slice vA vn vcc) := kB1.cell 1
    go_wp2_with fail
    have hP : Pu w1 w1.drew := (Pu.refl w1).drew
    have hbA : (Value.slice A n c).ownBlock ≠ some b := fun e => by
      have := (Hrow.out b (by rw [← k3]; exact e)).2.2
      exact this rfl
    have HbA := Lib.hid hbA
    have hbl : b < w1.heap.size := by omega
    clear hbA
    go_region_with (first
      | (go_at_call 53; refine (insertZ base A n c P w1.heap.size l k (vg, vA, vn, vcc) _ (own_pu (ho1.alloc _) ((Pu.refl _).drew)) (by omega) (by omega) (by simp; omega) (Blk.new _ _ _).drew HA.out).mono ?_; rintro e w2 ⟨A2, c2, rfl, ho2, hW2, hF⟩; have k2' : Blk w2 b 126 #[.slice A n c] := (((k1.pu h1).alloc _).drew).fr hF HbA.out; have c2' : w2.cell? ⟨b, 0, none⟩ = some (.slice A n c) := k2'.cell 0; have f2' : w2.frozen? ⟨b, 0, none⟩ = false := k2'.frozen 0; have hfr : Fr (fun j => j = b ∨ r = some j) w w2 := ((h1.alloc _).drew).fr' (hF.mono (fun j _ e => .inr (by rw [← k3]; exact e)))))
    all_goals
     clear ho1 c0 hF d0 d1
     go_wp2
     go_ret
     refine ⟨rfl, _, ⟨A2, n + 1, c2, k2'.set_ 0 _, own_fr ?_ (Fr.one w2 b 0 _) (own_nebZ ho2 k2' (by decide)), rfl, k4, by omega, hpr⟩, (by
      rcases hW2 with e | ⟨g, e, hg⟩
      · exact .inl (e.trans k3)
      · exact .inr ⟨g, e, by simp at hg; omega⟩), hfr.setCell (p := ⟨b, 0, none⟩) (.inl (.inl rfl)) _⟩
     rw [HM.out]
     exact ho2
  · have hu0 := TI.1 rfl
    obtain ⟨u, hu⟩ := hu0
    have HM := Lib.hid (show M = l.take P ++ (k, (vg, vA, vn, vcc)) :: l.drop (P + 1) from hpM)
    have Hu := Lib.hid hu
    have hPl := (List.getElem?_eq_some_iff.1 hu).1
    obtain ⟨g, cur, rfl, hb, hg, hnc, hcm, hcs, htk⟩ := own_blk k2 (by omega)
    have hcg := takeAddZ htk (j := P * 3 + 1) (by omega)
    have hkg := kps_get (s := 2) vcZ_len hu 1 (by omega)
    rw [show P * (2 + 1) + 1 = P * 3 + 1 from rfl] at hkg
    rw [show (prsZ l)[P * 3 + 1]? = _ from hkg] at hcg
    have hcg2 := takeAddZ htk (j := P * 3 + 1 + 1) (by omega)
    have hkg2 := kps_get (s := 2) vcZ_len hu 2 (by omega)
    rw [show (prsZ l)[P * 3 + 1 + 1]? = _ from hkg2] at hcg2
    clear hpM TI hu hkg hkg2
    go_enter Tryz.func21, Tryz.ntmps21
    go_wp2_with fail
    refine (Hf.out _ pB).mono ?_
    rintro e w1 ⟨rfl, h1⟩
    have hkB := h1
    replace h1 := pB.trans h1
    have c0 : w1.cell? ⟨b, 0, none⟩ = some (.slice (some ⟨g, 0, none⟩) n c) := (k1.pu h1).cell 0
    have c1 : w1.cell? ⟨g, P * 3 + 1, none⟩ = some _ := ((hg.pu h1).cell _).trans hcg
    have f1 : w1.frozen? ⟨g, P * 3 + 1, none⟩ = false := (hg.pu h1).frozen _
    have hne : g ≠ b := (hrow g (by rw [← k3]; rfl)).2.2
    have c2 : w1.cell? ⟨g, P * 3 + 1 + 1, none⟩ = some _ := ((hg.pu h1).cell _).trans hcg2
    have f2 : w1.frozen? ⟨g, P * 3 + 1 + 1, none⟩ = false := (hg.pu h1).frozen _
    have kB1 : Blk w1 w.heap.size 30 #[.bool vg, .slice vA vn vcc] := kB.pu hkB
    have d0 : w1.cell? ⟨w.heap.size, 0, none⟩ = some (.bool vg) := kB1.cell 0
    have d1 : w1.cell? ⟨w.heap.size, 1, none⟩ = some (.slice vA vn vcc) := kB1.cell 1
    go_wp2_with fail
    go_region
    go_wp2
    go_ret
    refine ⟨rfl, r, ⟨some ⟨g, 0, none⟩, n, c, (((k1.pu h1).far (p := ⟨g, P * 3 + 1, none⟩) (fun e => hne e.symm) _).far (p := ⟨g, P * 3 + 1 + 1, none⟩) (fun e => hne e.symm) _).drew, ?_, k3, k4, k5, hpr⟩, .inl rfl, ((h1.fr.setCell (p := ⟨g, P * 3 + 1, none⟩) (.inl (.inr (by rw [← k3]; rfl))) _).setCell (p := ⟨g, P * 3 + 1 + 1, none⟩) (.inl (.inr (by rw [← k3]; rfl))) _).drew⟩
    rw [HM.out]
    exact own_pu (own_setZ (v := (vg, vA, vn, vcc)) (own_pu k2 h1) Hu.out) ((Pu.refl _).drew)
end
section
set_option linter.unusedVariables false
open Go.RowKit
set_option maxHeartbeats 1000000 in
set_option maxRecDepth 100000 in
theorem dropZ (base b : Nat) (r : Option Nat) (l : List (Key × Part)) (k : Key) (w : World) (h : MOZ w base b r l) :
    Calls Tryz.prog 99 #[.pointer (some ⟨b, 0, none⟩), .string ⟨k.toArray⟩] w fun e w' => e = .returned (.bool (there l k)) ∧ MOZ w' base b r (dropM l k) ∧ Fr (fun j => j = b ∨ r = some j) w w' := by
  have hf := findZ b l k w h.mr
  have hrow := h.row
  have hmap := h
  obtain ⟨A, n, c, k1, k2, k3, k4, k5, k6⟩ := h
  have hln : l.length = n := lenZ (Sl.of_own k2)
  have TI := there_iff k6 k
  have hpl := place_le l k
  have hpr := dropM_rise k6 k
  have hpM : dropM l k = if there l k then l.take (place l k) ++ l.drop (place l k + 1) else l := rfl
  generalize hM : dropM l k = M at *
  generalize hth : there l k = th at *
  generalize hP : place l k = P at *
  clear hM hth hP
  have Hrow := Lib.hid hrow
  clear hrow
  rcases th with _ | _
  · have HM := Lib.hid (show M = l from hpM)
    clear hpM TI
    go_enter Tryz.func99, Tryz.ntmps99
    go_wp2_with fail
    refine hf.mono ?_
    rintro e w1 ⟨rfl, h1⟩
    go_wp2
    go_ret
    exact ⟨rfl, by rw [HM.out]; exact hmap.pu h1, h1.fr⟩
  · obtain ⟨u, hu⟩ := TI.1 rfl
    have HM := Lib.hid (show M = l.take P ++ l.drop (P + 1) from hpM)
    have hPl := (List.getElem?_eq_some_iff.1 hu).1
    have hw1 : IntKind.i64.wrap ((P : Int) + 1) = (P : Int) + 1 := IntWalk.i64_in _ (by omega)
    clear hpM TI hu hmap
    go_enter Tryz.func99, Tryz.ntmps99
    go_wp2_with fail
    refine hf.mono ?_
    rintro e w1 ⟨rfl, h1⟩
    have c0 : w1.cell? ⟨b, 0, none⟩ = some (.slice A n c) := (k1.pu h1).cell 0
    go_wp2_with fail
    refine (deleteZ base A n c P l _ (own_pu k2 h1) (by omega) (by omega)).mono ?_
    rintro e w2 ⟨rfl, ho2, hF⟩
    have hbA : (Value.slice A n c).ownBlock ≠ some b := fun e => by
      have := (Hrow.out b (by rw [← k3]; exact e)).2.2
      exact this rfl
    have k2' : Blk w2 b 126 #[.slice A n c] := (k1.pu h1).fr hF hbA
    have c2' : w2.cell? ⟨b, 0, none⟩ = some (.slice A n c) := k2'.cell 0
    have f2' : w2.frozen? ⟨b, 0, none⟩ = false := k2'.frozen 0
    have hfr : Fr (fun j => j = b ∨ r = some j) w w2 := h1.fr' (hF.mono (fun j _ e => .inr (by rw [← k3]; exact e)))
    clear c0 hF
    go_wp2
    go_ret
    refine ⟨rfl, ⟨A, n - 1, c, k2'.set_ 0 _, own_fr ?_ (Fr.one w2 b 0 _) (own_nebZ ho2 k2' (by decide)), by rw [← k3]; cases A <;> rfl, k4, by omega, hpr⟩, hfr.setCell (p := ⟨b, 0, none⟩) (.inl (.inl rfl)) _⟩
    rw [HM.out]
    exact ho2
end
end Go.Proofs.YtckfnbckoclhpaaGreatDoor
