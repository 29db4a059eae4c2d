/- zed: divide, in all. -/
import Derived.Test.YtckfnbckoclhpaaDoorZLong5
set_option linter.unusedVariables false
namespace Go.Proofs.YtckfnbckoclhpaaDoor
open Go.RowKit

set_option maxHeartbeats 1000000 in
set_option maxRecDepth 100000 in
theorem div_ok (X Y : Nat) (hY0 : 0 < Y) : DivOk X Y := by
  rcases Nat.lt_or_ge X Y with hlt | hge
  · exact div_less X Y hlt
  rcases Nat.lt_or_ge Y 4294967296 with hsm | hbig
  · exact div_short X Y hY0 hsm
  intro A1 A2 n1 c1 n2 c2 l1 l2 w hs1 hs2 hb1 hb2 ht1 ht2 hn1 hn2 hc1 hc2 hX hY
  have hc := compare_any A1 A2 n1 c1 n2 c2 l1 l2 w hs1 hs2 (by omega) (by omega) hb1 hb2 ht1 ht2
  obtain ⟨s, hs, d0⟩ := cmpN_ge hge
  rw [hX, hY, hs] at hc
  have hn2' : 2 ≤ n2 := by
    rcases Nat.lt_or_ge n2 2 with e | e
    · exfalso
      have h3 := pval_lt hb2
      rw [hs2.wlen, hY] at h3
      have h5 := Nat.pow_le_pow_right (n := 4294967296) (by decide) (show n2 ≤ 1 by omega)
      omega
    · exact e
  have d1 : ((n2 : Int) == 1) = false := by simp; omega
  have hlg := fun W (p : Pu w W) => long_any A1 A2 n1 c1 n2 c2 l1 l2 W (hs1.pu p) (hs2.pu p) hb1 hb2 ht1 ht2 hn1 hn2 hn2' (by rw [hX, hY]; exact hge)
  rw [hX, hY] at hlg
  have Hlg := Lib.hid hlg
  clear hX hY hs hlg hs1 hs2 hb1 hb2 ht1 ht2
  go_enter Tryd.func51, Tryd.ntmps51
  go_wp2_with fail
  refine hc.mono ?_
  rintro e w1 ⟨rfl, p1⟩
  go_wp2_with fail
  refine (Hlg.out _ p1).mono ?_
  rintro e w2 ⟨A3, n3, c3, q, A4, n4, c4, r, rfl, hS3, hS4, hn3, hn4, hc3, hc4, hb3, hb4, hq, hr, p2⟩
  have Hq := Lib.hid (And.intro hq hr)
  have PP := p1.trans p2
  clear hq hr
  go_wp2
  go_ret2
  exact ⟨A3, n3, c3, q, A4, n4, c4, r, rfl, hS3, hS4, hn3, hn4, hc3, hc4, hb3, hb4, Hq.out.1, Hq.out.2, PP⟩
end Go.Proofs.YtckfnbckoclhpaaDoor
