/- BagOwn: what was handed in isn't kept, and what is told is its own. -/
import Derived.Test.YtckfnbckoclhpaaBagAnchor
import Derived.Test.YtckfnbckoclhpaaOwn1
import Derived.Test.YtckfnbckoclhpaaRefI2
set_option linter.unusedVariables false
namespace Go.Proofs.Ytckfnbckoclhpaa
open Go.RowKit

theorem MapR.ne_blk {w : World} {base b q : Nat} {r : Option Nat} {l : List (Int × Int)} {t : TypeId} {cs : Array Value} (h : MapR w base b r l) (hq : Blk w q t cs) (h1 : 75 ≠ t) : r ≠ some q := by
  obtain ⟨A, n, c, k1, k2, k3, _⟩ := h
  intro e
  exact own_ne_blk k2 hq h1 q (by rw [k3, e]) rfl

theorem ivs_one (l : List Int) : ∀ u ∈ ivs l, u.oneCell' = true := by
  intro u hu
  simp only [ivs, List.mem_map] at hu
  obtain ⟨z, _, rfl⟩ := hu
  rfl

theorem IntRow.ne {base n c bo : Nat} {A : Option Addr} {w : World} {t : TypeId} {cs : Array Value} (h : IntRow base A n c w) (hb : Blk w bo t cs) (ht : 3 ≠ t) : ∀ g, A = some ⟨g, 0, none⟩ → g ≠ bo := by
  obtain ⟨zs, h⟩ := h
  intro g hg
  exact own_ne_blk h hb ht g (by rw [hg]; rfl)
theorem IntRow.le {base n c : Nat} {A : Option Addr} {w : World} (h : IntRow base A n c w) : n ≤ 9223372036854775807 := by
  obtain ⟨zs, h⟩ := h
  have := own_le h
  simp only [maxLen] at this
  omega

set_option maxHeartbeats 8000000 in
set_option maxRecDepth 100000 in
theorem own_walk (A : Option Addr) (n c : Nat) (zs : List Int) (w : World) (hs : Sl w 1 A n c (ivs zs)) (hn : n ≤ 40) :
    Calls Try.prog 8 #[.slice A n c] w fun e w' => e = .returned (.bool true) ∧ Pu w w' := by
  have d1 : decide ((40 : Int) < n) = false := by simp; omega
  have d3 : decide ((n : Int) > 40) = false := by simp; omega
  have hzl : zs.length = n := by have := hs.1; simpa using this
  go_enter Try.func8, Try.ntmps8
  go_wp2_with fail
  refine (anchor_any _).mono ?_
  rintro e w1 ⟨rfl, H1⟩
  have hEo := own_none w1 3 1 #[] rfl (Nat.le_refl _)
  have hEp : Pu w1 (w1.alloc (.cells #[] 3)) := (Pu.refl w1).alloc _
  go_wp2_with (at_builtin; refine wpList_app eiInt rfl (.tmp 24) (.tmp 25) rfl rfl rfl hEo ((hs.pu H1).pu hEp) (ivs_one zs) (by simp [maxLen]; omega) (by omega) (by simp) ?_)
  intro A2 c2 w2 ho2 hg2
  have hP12 := pu_push hEp hEo (Nat.le_refl _) hg2
  have H2 := H1.trans hP12
  have ho2' : w2.ownsRow w1.heap.size 3 1 (.slice A2 n c2) n (ivs zs) := by simpa using ho2
  clear ho2 hg2 hEo hEp hP12
  go_wp2_with fail
  refine (of_intB A2 n c2 zs _ (Sl.of_own ho2') (by omega)).mono ?_
  rintro e w3 ⟨As, ns, rfl, hns, hSl3, hAs, h3⟩
  have ho3 := own_pu ho2' h3
  go_wp2_with fail
  refine (newrow_any zs A2 n c2 _ (Sl.of_own ho3) (by omega)).mono ?_
  rintro e w4 ⟨b, g, rfl, hb4, hg4, hgl4, hR4, h4⟩
  have ho4 := own_pu ho3 h4
  go_wp2_with fail
  refine (newmap_any _).mono ?_
  rintro e w5 ⟨bm, rfl, hM5, hbm, h5⟩
  have hbl4 := hR4.count.2.2.2
  have hin2 := fun k h => (ho2'.lt k h).2
  have hs23 := h3.size
  have hs34 := h4.size
  have hs45 := h5.size
  have H5 := ((H2.trans h3).trans h4).trans h5
  have ho5 := own_pu ho4 h5
  have hSl5 := (hSl3.pu h4).pu h5
  have hR5 := hR4.pu h5
  have hbm5 := hM5.lt.2
  clear ho2' ho3 ho4 hSl3 hR4
  have hb4 : Blk (w5.alloc (.cells #[.slice As ns ns] 54)) w5.heap.size 54 #[.slice As ns ns] := Blk.new _ _ _
  have h6 : Pu w5 (w5.alloc (.cells #[.slice As ns ns] 54)) := (Pu.refl w5).alloc _
  have H6 := H5.trans h6
  have ho6 := own_pu ho5 h6
  have hSl6 := hSl5.pu h6
  have hR6 := hR5.pu h6
  have hM6 := (hM5.pu h6)
  have hsz6 : (w5.alloc (.cells #[.slice As ns ns] 54)).heap.size = w5.heap.size + 1 := by simp
  have Hin2 := Lib.hid hin2
  have HAs := Lib.hid hAs
  clear H5 ho5 hSl5 hR5 hM5 h6 hin2 hAs
  obtain ⟨b4, eb4⟩ : ∃ b4, b4 = w5.heap.size := ⟨_, rfl⟩
  rw [← eb4] at hb4
  go_wp2_with fail
  go_loopw [34] (fun v ws => ∃ (j : Nat) (r : Option Nat), j ≤ n ∧ v = .int .i64 j ∧ MapR ws w4.heap.size bm r (en (zs.take j)) ∧ Blk ws b4 54 #[.slice As ns ns] ∧ Sl ws 1 As ns ns (ivs (norm zs)) ∧ RowR ws b g zs ∧ ws.ownsRow w1.heap.size 3 1 (.slice A2 n c2) n (ivs zs) ∧ w5.heap.size ≤ ws.heap.size ∧ Pu w ws) (fun v _ => n - (intOf v).toNat)
  case atStart => exact ⟨0, none, Nat.zero_le _, rfl, hM6, hb4, hSl6, hR6, ho6, by omega, H6⟩
  case round =>
    obtain ⟨j, r, hj, rfl, hM, hB, hS, hR, hO, hsz, hP⟩ := hrel
    by_cases hlt : j < n
    · obtain ⟨q, o, u, rfl, hq, hu, hc⟩ := (Sl.of_own hO).at_ hlt
      have hu' : zs[j]? = some zs[j] := List.getElem?_eq_getElem (by omega)
      obtain rfl : .int .i64 zs[j] = u := by
        rw [List.getElem?_map, hu'] at hu
        injection hu
      have hent := en_take hu'
      clear hu hu'
      generalize zs[j] = x at *
      have hMlt := hM.lt
      have hMrow := hM.row
      have hlen : (en (zs.take j)).length < 1000 := by rw [en_len]; simp; omega
      have hne := hM.ne_blk hB (by decide)
      have Hent := Lib.hid hent
      have Hne := Lib.hid hne
      have Hrow := Lib.hid hMrow
      clear hent hne hMrow
      go_wp2_with fail
      refine (put_any _ bm r _ j x _ hM hlen).mono ?_
      rintro e wq ⟨rfl, r', hM', hF⟩
      rw [Hent.out] at hM'
      have far : ∀ k, k < w4.heap.size → ¬ (k = bm ∨ r = some k) := fun k hk hi => by
        rcases hi with e | e
        · omega
        · have := (Hrow.out k e).1
          omega
      have hPq : Pu w wq := hP.step hF (fun i hi => by
        rcases hi with e | e
        · have := H2.size
          omega
        · have := (Hrow.out i e).1
          have := H2.size
          omega)
      have hBq := hB.fr hF (fun hi => by
        rcases hi with e | e
        · omega
        · exact Hne.out e)
      have hSq := hS.fr hF (fun _ q off e => far q (by have := (HAs.out q off e).2; omega))
      have hRq := hR.fr hF (far b (by omega)) (far g (by omega))
      have hOq := own_fr hO hF (fun k e => far k (by have := Hin2.out k e; omega))
      have hszq := hF.size
      clear hM hB hS hR hO hP hF far hc
      go_wp2
      go_roundw
      case rel => exact ⟨j + 1, r', by omega, by go_num, hM', hBq, hSq, hRq, hOq, by omega, hPq⟩
      case measure => simp [intOf]; omega
    · obtain rfl : j = n := by omega
      rw [List.take_of_length_le (by omega)] at hM
      have hsz12 := H2.size
      obtain ⟨lo, elo⟩ : ∃ lo, lo = w2.heap.size := ⟨_, rfl⟩
      obtain ⟨hi, ehi⟩ : ∃ hi, hi = wr.heap.size := ⟨_, rfl⟩
      have hK : Keep lo hi b4 As ns b g bm r zs wr := ⟨hB, hS, hR, hM.base_ (by omega), ⟨by omega, by have := hB.lt; omega⟩, fun q off e => by have := HAs.out q off e; omega, ⟨by omega, by omega⟩, ⟨by omega, by omega⟩, ⟨by omega, by have := hM.lt.2; omega⟩, fun q e => by have := hM.row q e; omega⟩
      have hI : IntRow w1.heap.size A2 j c2 wr := ⟨zs, hO⟩
      have hlow : w.heap.size ≤ w1.heap.size := H1.size
      have hhi0 : hi ≤ wr.heap.size := by omega
      have hlh : lo ≤ hi := by omega
      have Hin : Hid (∀ k, (Value.slice A2 j c2).ownBlock = some k → k < lo) := Lib.hid (fun k e => by have := Hin2.out k e; omega)
      have hrise := hM.rise
      clear hB hS hR hM hO hM6 hb4 hSl6 hR6 ho6 H6
      go_wp2_with fail
      go_loopw [46] (fun v ws => ∃ i : Nat, i ≤ j ∧ v = .int .i64 i ∧ IntRow w1.heap.size A2 j c2 ws ∧ Keep lo hi b4 As ns b g bm r zs ws ∧ hi ≤ ws.heap.size ∧ Pu w ws) (fun v _ => j - (intOf v).toNat)
      case atStart => exact ⟨0, Nat.zero_le _, rfl, hI, hK, hhi0, hP⟩
      case round =>
        clear hI hK hhi0 hP
        obtain ⟨i, hi', rfl, hI, hK, hhi, hP⟩ := hrel
        by_cases hij : i < j
        · obtain ⟨q, z, rfl, hq, hqs, hc, hf⟩ := hI.at_ hij
          have hqlo := Hin.out q rfl
          go_wp2
          go_roundw
          case rel => exact ⟨i + 1, by omega, by go_num, hI.set _ _ _, hK.out _ (.inl hqlo), by simpa [World.setCell] using hhi, hP.setCell (by show w.heap.size ≤ q; omega) _⟩
          case measure => simp [intOf]; omega
        · obtain rfl : i = j := by omega
          clear hI Hin
          have c4 : wr.cell? ⟨w5.heap.size, 0, none⟩ = some (.slice As ns ns) := by rw [← eb4]; exact hK.set.cell 0
          go_wp2_with fail
          refine (items_int As ns ns (norm zs) _ hK.sl (by omega)).mono ?_
          rintro e v1 ⟨Q1, q1, rfl, k1, p1⟩
          have hK1 := hK.pu p1
          go_wp2_with fail
          refine (rall_any b g zs _ hK1.row).mono ?_
          rintro e v2 ⟨Q2, n2, q2, rfl, k2, p2⟩
          have hK2 := hK1.pu p2
          go_wp2_with fail
          refine (keys_any lo bm r (en zs) _ hK2.map).mono ?_
          rintro e v3 ⟨Q3, n3, q3, rfl, k3, p3⟩
          have hK3 := hK2.pu p3
          have s1 := p1.size
          have s2 := p2.size
          have s3 := p3.size
          have hP3 := ((hP.trans p1).trans p2).trans p3
          obtain ⟨bo, ebo⟩ : ∃ bo, bo = v3.heap.size := ⟨_, rfl⟩
          have hBo : Blk (v3.alloc (.cells #[.slice Q1 ns q1, .slice Q2 n2 q2, .slice Q3 n3 q3] 28)) bo 28 #[.slice Q1 ns q1, .slice Q2 n2 q2, .slice Q3 n3 q3] := Blk.at_new _ _ _ ebo
          have pA : Pu v3 (v3.alloc (.cells #[.slice Q1 ns q1, .slice Q2 n2 q2, .slice Q3 n3 q3] 28)) := (Pu.refl v3).alloc _
          obtain ⟨St, hSt⟩ : ∃ St : World → Prop, ∀ ws, St ws ↔ (IntRow hi Q1 ns q1 ws ∧ IntRow hi Q2 n2 q2 ws ∧ IntRow hi Q3 n3 q3 ws ∧ Blk ws bo 28 #[.slice Q1 ns q1, .slice Q2 n2 q2, .slice Q3 n3 q3] ∧ Keep lo hi b4 As ns b g bm r zs ws ∧ hi ≤ ws.heap.size ∧ Pu w ws) := ⟨_, fun _ => Iff.rfl⟩
          have st0 : St (v3.alloc (.cells #[.slice Q1 ns q1, .slice Q2 n2 q2, .slice Q3 n3 q3] 28)) := (hSt _).2 ⟨⟨_, own_base (own_pu k1 ((p2.trans p3).trans pA)) (by omega)⟩, ⟨_, own_base (own_pu k2 (p3.trans pA)) (by omega)⟩, ⟨_, own_base (own_pu k3 pA) (by omega)⟩, hBo, hK3.pu pA, by simp; omega, hP3.trans pA⟩
          have hwlo : w.heap.size ≤ hi := by omega
          have stS : ∀ ws q o z, St ws → hi ≤ q → q ≠ bo → St (ws.setCell ⟨q, o, none⟩ (.int .i64 z)) := fun ws q o z h hq hne => by
            obtain ⟨a1, a2, a3, a4, a5, a6, a7⟩ := (hSt ws).1 h
            exact (hSt _).2 ⟨a1.set _ _ _, a2.set _ _ _, a3.set _ _ _, a4.far (p := ⟨q, o, none⟩) (fun e => hne e.symm) _, a5.out _ (.inr hq), by simpa [World.setCell] using a6, a7.setCell (by show w.heap.size ≤ q; omega) _⟩
          have HSt := Lib.hid hSt
          have StS := Lib.hid stS
          clear hSt stS hBo pA k1 k2 k3 p1 p2 p3 hK hK1 hK2 hK3 hP hP3 c4
          go_wp2_with fail
          go_loopw [66] (fun v ws => ∃ t : Nat, t ≤ 3 ∧ v = .int .i64 t ∧ St ws) (fun v _ => 3 - (intOf v).toNat)
          case atStart => exact ⟨0, Nat.zero_le _, rfl, st0⟩
          case round =>
            clear st0
            obtain ⟨t, ht, rfl, hst⟩ := hrel
            by_cases ht3 : t < 3
            · obtain ⟨At, nt, ct, hcell, hrow⟩ : ∃ At nt ct, wr.cell? ⟨v3.heap.size, t, none⟩ = some (.slice At nt ct) ∧ ∀ ws, St ws → IntRow hi At nt ct ws := by
                rw [← ebo]
                have a4 := ((HSt.out wr).1 hst).2.2.2.1
                rcases (show t = 0 ∨ t = 1 ∨ t = 2 by omega) with rfl | rfl | rfl
                · exact ⟨_, _, _, a4.cell 0, fun ws h => ((HSt.out ws).1 h).1⟩
                · exact ⟨_, _, _, a4.cell 1, fun ws h => ((HSt.out ws).1 h).2.1⟩
                · exact ⟨_, _, _, a4.cell 2, fun ws h => ((HSt.out ws).1 h).2.2.1⟩
              have hnt := (hrow _ hst).le
              have Hrow := Lib.hid hrow
              clear hrow
              go_wp2_with fail
              go_loopw [72] (fun v ws => ∃ x : Nat, x ≤ nt ∧ v = .int .i64 x ∧ St ws) (fun v _ => nt - (intOf v).toNat)
              case atStart => exact ⟨0, Nat.zero_le _, rfl, hst⟩
              case round =>
                clear hst hcell
                obtain ⟨x, hx, rfl, hst⟩ := hrel
                by_cases hxn : x < nt
                · obtain ⟨q, z, ea, hq, hqs, hc, hf⟩ := (Hrow.out _ hst).at_ hxn
                  have hne := (Hrow.out _ hst).ne ((HSt.out _).1 hst).2.2.2.1 (by decide) q ea
                  subst ea
                  go_wp2
                  go_roundw
                  case rel => exact ⟨x + 1, by omega, by go_num, StS.out _ _ _ _ hst hq hne⟩
                  case measure => simp [intOf]; omega
                · go_wp2
                  go_roundw
                  case rel => exact ⟨t + 1, by omega, by go_num, hst⟩
                  case measure => simp [intOf]; omega
            · obtain ⟨_, _, _, _, hK, hhi4, hP⟩ := (HSt.out wr).1 hst
              clear HSt StS hst
              go_wp2_with fail
              refine (pairs_any lo bm r (en zs) _ hK.map).mono ?_
              rintro e v6 ⟨A6, n6, c6, rfl, ho6, p6⟩
              have e6 : (en zs).length = n6 := (Sl.of_own ho6).prs_len
              rw [en_len] at e6
              subst e6
              have hK6 := hK.pu p6
              have hP6 := hP.trans p6
              have hS6 := Sl.of_own ho6
              clear hK hP ho6
              go_wp2_with fail
              go_loopw [88] (fun v ws => ∃ x : Nat, x ≤ zs.length ∧ v = .int .i64 x ∧ Pu v6 ws) (fun v _ => zs.length - (intOf v).toNat)
              case atStart => exact ⟨0, Nat.zero_le _, rfl, Pu.refl _⟩
              case round =>
                obtain ⟨x, hx, rfl, hPx⟩ := hrel
                by_cases hxn : x < zs.length
                · obtain ⟨p, hp⟩ : ∃ p, (en zs)[x]? = some p := ⟨_, List.getElem?_eq_getElem (by rw [en_len]; exact hxn)⟩
                  obtain ⟨q, o, ea, hq, cq1, cq2⟩ := prs_at (hS6.pu hPx) hp
                  subst ea
                  clear hp
                  go_wp2
                  go_roundw
                  case rel => exact ⟨x + 1, by omega, by go_num, hPx.alloc _⟩
                  case measure => simp [intOf]; omega
                · have hK7 := hK6.pu hPx
                  have hP7 := hP6.trans hPx
                  have hs7 := hs.pu hP7
                  have c4 : wr.cell? ⟨w5.heap.size, 0, none⟩ = some (.slice As ns ns) := by rw [← eb4]; exact hK7.set.cell 0
                  clear hK6 hP6 hS6 hPx
                  go_wp2_with fail
                  refine (items_int As ns ns (norm zs) _ hK7.sl (by omega)).mono ?_
                  rintro e x1 ⟨Z1, z1, rfl, kz1, pz1⟩
                  go_wp2_with fail
                  refine (refOf_int A i c zs _ (hs7.pu pz1) (by omega)).mono ?_
                  rintro e x2 ⟨Z2, nz2, z2, rfl, hnz2, sz2, pz2⟩
                  have ens : nz2 = ns := by
                    have h1 := hK7.sl.1
                    have h2 := sz2.1
                    simp at h1 h2
                    omega
                  subst ens
                  go_wp2_with fail
                  refine (same_int Z1 Z2 _ z1 z2 (norm zs) _ ((Sl.of_own kz1).pu pz2) sz2 (by omega)).mono ?_
                  rintro e x3 ⟨rfl, pz3⟩
                  have pz := (pz1.trans pz2).trans pz3
                  have hK8 := hK7.pu pz
                  go_wp2_with fail
                  refine (rall_any b g zs _ hK8.row).mono ?_
                  rintro e x4 ⟨Z4, nz4, z4, rfl, kz4, pz4⟩
                  have e4 : nz4 = i := by
                    have h1 := kz4.1
                    simp at h1
                    omega
                  subst e4
                  go_wp2_with fail
                  refine (same_int Z4 A _ z4 c zs _ (Sl.of_own kz4) ((hs7.pu pz).pu pz4) (by omega)).mono ?_
                  rintro e x5 ⟨rfl, pz5⟩
                  have hK9 := (hK8.pu pz4).pu pz5
                  have hs9 := ((hs7.pu pz).pu pz4).pu pz5
                  have hP9 := ((hP7.trans pz).trans pz4).trans pz5
                  go_wp2_with fail
                  refine (mlen_any lo bm r (en zs) _ hK9.map).mono ?_
                  rintro e x6 ⟨rfl, rfl⟩
                  rw [en_len, hzl]
                  have hM9 := hK9.map
                  clear hK7 hK8 hK9 hs7 hP7 pz pz1 pz2 pz3 pz4 pz5 kz1 sz2 kz4 c4
                  go_wp2_with fail
                  go_loopw [116] (fun v ws => ∃ y : Nat, y ≤ nz4 ∧ v = .int .i64 y ∧ Pu x5 ws) (fun v _ => nz4 - (intOf v).toNat)
                  case atStart => exact ⟨0, Nat.zero_le _, rfl, Pu.refl _⟩
                  case round =>
                    obtain ⟨y, hy, rfl, hPy⟩ := hrel
                    by_cases hyn : y < nz4
                    · obtain ⟨q, o, u, ea, hq, hu, hc⟩ := (hs9.pu hPy).at_ hyn
                      have hu' : zs[y]? = some zs[y] := List.getElem?_eq_getElem (by omega)
                      obtain rfl : .int .i64 zs[y] = u := by
                        rw [List.getElem?_map, hu'] at hu
                        injection hu
                      subst ea
                      obtain ⟨t1, t2⟩ := en_val hrise hu'
                      have T1 := Lib.hid t1
                      have T2 := Lib.hid t2
                      clear hu hu' t1 t2
                      generalize zs[y] = z at *
                      go_wp2_with fail
                      refine (mget_any lo bm r (en zs) y _ (hM9.pu hPy)).mono ?_
                      rintro e x7 ⟨rfl, p7⟩
                      rw [T1.out, T2.out]
                      go_wp2
                      go_roundw
                      case rel => exact ⟨y + 1, by omega, by go_num, hPy.trans p7⟩
                      case measure => simp [intOf]; omega
                    · go_wp2
                      go_ret
                      exact ⟨rfl, hP9.trans hPy⟩

set_option maxRecDepth 100000 in
theorem own_big (A : Option Addr) (n c : Nat) (w : World) (hn : n ≤ 9223372036854775807) (hb : 40 < n) :
    Calls Try.prog 8 #[.slice A n c] w fun e w' => e = .returned (.bool true) ∧ Pu w w' := by
  go_enter Try.func8, Try.ntmps8
  go_wp2_with fail
  refine (anchor_any _).mono ?_
  rintro e w1 ⟨rfl, H1⟩
  go_wp2
  go_ret
  exact ⟨rfl, H1⟩
end Go.Proofs.Ytckfnbckoclhpaa
