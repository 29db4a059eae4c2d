/- BagSets: the walk. -/
import Derived.Test.YtckfnbckoclhpaaRefI2
import Derived.Test.YtckfnbckoclhpaaSetI5
import Derived.Test.YtckfnbckoclhpaaBagAnchor
set_option linter.unusedVariables false
namespace Go.Proofs.Ytckfnbckoclhpaa
open Go.RowKit

theorem own_empty (w : World) (t : TypeId) (cs : Array Value) (hc : cs.size = 0) {base : Nat} (hb : base ≤ w.heap.size) : (w.alloc (.cells cs t)).ownsRow base t 1 (.slice (some ⟨w.heap.size, 0, none⟩) 0 0) 0 [] :=
  ⟨rfl, .inr ⟨w.heap.size, 0, cs, rfl, hb, Blk.new _ _ _, Nat.le_refl _, Nat.zero_le _, by omega, by simp⟩⟩

theorem norm_norm_app (zs ys : List Int) : norm (norm zs ++ ys) = norm (zs ++ ys) := by
  refine norm_eq _ _ (norm_rising _) (fun y => ?_)
  rw [mem_norm, List.mem_append, List.mem_append, mem_norm]
theorem filt_false (zs ys : List Int) : (zs.filter fun x => decide (x ∈ ys) == false) = zs.filter fun x => !decide (x ∈ ys) := by
  congr 1
  funext x
  cases decide (x ∈ ys) <;> rfl
theorem filt_true (zs ys : List Int) : (zs.filter fun x => decide (x ∈ ys) == true) = zs.filter fun x => decide (x ∈ ys) := by
  congr 1
  funext x
  cases decide (x ∈ ys) <;> rfl
theorem within_eq (zs ys : List Int) : ((zs.filter fun x => decide (x ∈ ys)).length == zs.length) = ((zs.filter fun x => !decide (x ∈ ys)).length == 0) := by
  rw [Bool.eq_iff_iff, beq_iff_eq, beq_iff_eq, List.length_filter_eq_length_iff, List.length_eq_zero_iff, List.filter_eq_nil_iff]
  constructor
  · intro h x hx
    simp [h x hx]
  · intro h x hx
    have := h x hx
    simpa using this

set_option maxHeartbeats 1600000 in
set_option maxRecDepth 100000 in
theorem sets_walk (A B : Option Addr) (n c m d : Nat) (zs ys : List Int) (x : Int) (w : World) (h : Sl w 1 A n c (ivs zs)) (hy : Sl w 1 B m d (ivs ys)) (hn : n ≤ 60) (hm : m ≤ 60) :
    Calls Try.prog 6 #[.slice A n c, .slice B m d, .int .i64 x] w fun e w' => e = .returned (.bool true) ∧ Pu w w' := by
  have d1 : decide ((60 : Int) < n) = false := by simp; omega
  have d2 : decide ((60 : Int) < m) = false := by simp; omega
  go_enter Try.func6, Try.ntmps6
  go_wp2_with fail
  refine (anchor_any _).mono ?_
  rintro e w1 ⟨rfl, H1⟩
  go_wp2_with fail
  refine (of_int A n c zs _ (h.pu H1) (by omega)).mono ?_
  rintro e w2 ⟨A2, n2, rfl, hn2, hs2, h2⟩
  have H2 := H1.trans h2
  go_wp2_with fail
  refine (of_int B m d ys _ (hy.pu H2) (by omega)).mono ?_
  rintro e w3 ⟨B3, m3, rfl, hm3, hs3, h3⟩
  have H3 := H2.trans h3
  go_wp2_with fail
  have bs0 : Blk ((w3.alloc (Obj.cells #[Value.slice A2 n2 n2] 54)).alloc (Obj.cells #[Value.slice B3 m3 m3] 54)) w3.heap.size 54 #[Value.slice A2 n2 n2] := (Blk.new _ _ _).alloc _
  have bt0 : Blk ((w3.alloc (Obj.cells #[Value.slice A2 n2 n2] 54)).alloc (Obj.cells #[Value.slice B3 m3 m3] 54)) (w3.heap.size + 1) 54 #[Value.slice B3 m3 m3] := Blk.at_new _ _ _ (by simp)
  have hal : Pu w3 ((w3.alloc (Obj.cells #[Value.slice A2 n2 n2] 54)).alloc (Obj.cells #[Value.slice B3 m3 m3] 54)) := ((Pu.refl w3).alloc _).alloc _
  have hsA : Sl ((w3.alloc (Obj.cells #[Value.slice A2 n2 n2] 54)).alloc (Obj.cells #[Value.slice B3 m3 m3] 54)) 1 A2 n2 n2 (ivs (norm zs)) := (hs2.pu h3).pu hal
  have hsB := hs3.pu hal
  have H0 := H3.trans hal
  generalize hS : w3.heap.size = S at *
  generalize (w3.alloc (Obj.cells #[Value.slice A2 n2 n2] 54)).alloc (Obj.cells #[Value.slice B3 m3 m3] 54) = W0 at *
  clear H1 H2 H3 h2 h3 hs2 hs3 hal hS
  have hA := h.pu H0
  have hB := hy.pu H0
  have hl2 : n2 = (norm zs).length := by have := hsA.1; simp at this; omega
  have hl3 : m3 = (norm ys).length := by have := hsB.1; simp at this; omega
  have Hl2 := Lib.hid hl2
  have Hl3 := Lib.hid hl3
  clear hl2 hl3 h hy
  have rU := norm_rising zs
  have rV := norm_rising ys
  have RU := Lib.hid rU
  have RV := Lib.hid rV
  clear rU rV
  have c0 : W0.cell? ⟨S, 0, none⟩ = some (.slice A2 n2 n2) := bs0.cell 0
  have e0 : W0.cell? ⟨S + 1, 0, none⟩ = some (.slice B3 m3 m3) := bt0.cell 0
  have P0 := Pu.refl W0
  have l0 := bs0.lt
  have l1 := bt0.lt
  clear bs0 bt0
  refine (refOf_int A n c zs _ hA (by omega)).mono ?_
  rintro e W1 ⟨A4, n4, c4, rfl, hn4, hs4, h1⟩
  have P1 := P0.trans h1
  go_wp2_with fail
  refine (refOf_int B m d ys _ (hB.pu P1) (by omega)).mono ?_
  rintro e W2 ⟨B5, m5, d5, rfl, hm5, hs5, h2⟩
  have P2 := P1.trans h2
  have hU : Sl W2 1 A4 n4 c4 (ivs (norm zs)) := hs4.pu h2
  have hl4 : n4 = n2 := by have := hs4.1; rw [Hl2.out]; simp at this; omega
  have hl5 : m5 = m3 := by have := hs5.1; rw [Hl3.out]; simp at this; omega
  subst hl4 hl5
  clear h1 h2 hs4
  have l2 := P2.size
  go_wp2_with (at_builtin; refine wpList_app eiInt rfl (.tmp 30) (.tmp 31) rfl rfl rfl (own_empty W2 _ _ (by rfl) (Nat.le_refl _)) ((hA.pu P2).pu ((Pu.refl _).alloc _)) (ints_oneCell _ _) (by simp [maxLen]; omega) (by omega) (by simp) ?_)
  intro A6 c6 W3 ho3 hg3
  have P3 : Pu W0 W3 := pu_push (P2.alloc _) (own_empty W2 _ #[] rfl (Nat.le_refl _)) l2 hg3
  have q3 : Pu W2 W3 := pu_push ((Pu.refl W2).alloc _) (own_empty W2 _ #[] rfl (Nat.le_refl _)) (Nat.le_refl _) hg3
  have l3 := q3.size
  go_wp2_with (at_builtin; refine wpList_app eiInt rfl (.tmp 32) (.tmp 33) rfl rfl rfl ho3 (hB.pu P3) (ints_oneCell _ _) (by simp [maxLen]; omega) (by omega) l3 ?_)
  intro A7 c7 W4 ho4 hg4
  have P4 : Pu W0 W4 := pu_push P3 ho3 l2 hg4
  have q4 : Pu W2 W4 := pu_push q3 ho3 (Nat.le_refl _) hg4
  have hs4 : Sl W4 1 A7 (n + m) c7 (ivs (zs ++ ys)) := by
    rw [show ivs (zs ++ ys) = ivs zs ++ ivs ys from List.map_append]
    exact Sl.of_own ho4
  have hU4 := hU.pu q4
  have hV4 := hs5.pu q4
  clear ho3 hg3 ho4 hg4 q3 q4 hU hs5 l2 l3 P1 P2 P3
  go_wp2_with fail
  refine (refOf_int A7 (n + m) c7 (zs ++ ys) _ hs4 (by omega)).mono ?_
  rintro e W5 ⟨A8, n8, c8, rfl, hn8, hs8, h5⟩
  have P5 := P4.trans h5
  have hU5 := hU4.pu h5
  have hV5 := hV4.pu h5
  have cc5 := P5.cellv c0
  have ee5 := P5.cellv e0
  have hl8 : n8 = (norm (zs ++ ys)).length := by have := hs8.1; simp at this; omega
  have Hl8 := Lib.hid hl8
  clear hs4 h5 hU4 hV4 P4 hl8
  go_wp2_with fail
  refine (items_int A2 _ _ (norm zs) _ (hsA.pu P5) (by omega)).mono ?_
  rintro e W6 ⟨A9, c9, rfl, ho9, h6⟩
  have P6 := P5.trans h6
  have cc6 := P6.cellv c0
  have ee6 := P6.cellv e0
  clear cc5 ee5
  have hi6 := Sl.of_own ho9
  go_wp2_with fail
  refine (same_int A9 A4 _ c9 c4 (norm zs) _ hi6 (hU5.pu h6) (by omega)).mono ?_
  rintro e W7 ⟨rfl, h7⟩
  have P7 := P6.trans h7
  have cc7 := P7.cellv c0
  have ee7 := P7.cellv e0
  clear cc6 ee6
  go_wp2_with fail
  refine (len_int A2 _ _ _ (by omega)).mono ?_
  rintro e W8 ⟨rfl, h8⟩
  have P8 := P7.trans h8
  have cc8 := P8.cellv c0
  have ee8 := P8.cellv e0
  clear cc7 ee7
  go_wp2_with fail
  refine (has_int A2 _ _ (norm zs) x _ (hsA.pu P8) (by omega) RU.out).mono ?_
  rintro e W9 ⟨rfl, h9⟩
  have P9 := P8.trans h9
  have cc9 := P9.cellv c0
  have ee9 := P9.cellv e0
  clear cc8 ee8
  go_wp2_with fail
  refine (refHas_int A4 _ c4 (norm zs) x _ ((((hU5.pu h6).pu h7).pu h8).pu h9) (by omega)).mono ?_
  rintro e WW ⟨rfl, rfl⟩
  generalize decide (x ∈ norm zs) = q at *
  have hq : (q == q) = true := by simp
  go_wp2_with fail
  refine (with_int A2 B _ _ m d (norm zs) ys _ (hsA.pu P9) (hB.pu P9) (by omega) (by omega)).mono ?_
  rintro e W10 ⟨A10, n10, rfl, hn10, hs10, h10⟩
  have P10 := P9.trans h10
  have cc10 := P10.cellv c0
  have ee10 := P10.cellv e0
  clear cc9 ee9
  rw [norm_norm_app] at hs10
  have hl10 : n10 = n8 := by have := hs10.1; rw [Hl8.out]; simp at this; omega
  subst hl10
  go_wp2_with fail
  refine (items_int A10 _ _ (norm (zs ++ ys)) _ hs10 (by omega)).mono ?_
  rintro e W11 ⟨A11, c11, rfl, ho11, h11⟩
  have P11 := P10.trans h11
  have cc11 := P11.cellv c0
  have ee11 := P11.cellv e0
  clear cc10 ee10
  have hi11 := Sl.of_own ho11
  go_wp2_with fail
  refine (same_int A11 A8 _ c11 c8 (norm (zs ++ ys)) _ hi11 ((((((hs8.pu h6).pu h7).pu h8).pu h9).pu h10).pu h11) (by omega)).mono ?_
  rintro e W12 ⟨rfl, h12⟩
  have P12 := P11.trans h12
  have cc12 := P12.cellv c0
  have ee12 := P12.cellv e0
  clear cc11 ee11
  go_wp2_with fail
  refine (without_int A2 B _ _ m d (norm zs) ys _ (hsA.pu P12) (hB.pu P12) (by omega) (by omega)).mono ?_
  rintro e W13 ⟨A13, n13, c13, rfl, hn13, hs13, h13⟩
  have P13 := P12.trans h13
  have cc13 := P13.cellv c0
  have ee13 := P13.cellv e0
  clear cc12 ee12
  go_wp2_with fail
  refine (items_int A13 _ _ _ _ hs13 (by omega)).mono ?_
  rintro e W14 ⟨A14, c14, rfl, ho14, h14⟩
  have P14 := P13.trans h14
  have cc14 := P14.cellv c0
  have ee14 := P14.cellv e0
  clear cc13 ee13
  have hi14 := Sl.of_own ho14
  have hU14 := ((((((((hU5.pu h6).pu h7).pu h8).pu h9).pu h10).pu h11).pu h12).pu h13).pu h14
  have hV14 := ((((((((hV5.pu h6).pu h7).pu h8).pu h9).pu h10).pu h11).pu h12).pu h13).pu h14
  go_wp2_with fail
  refine (refBoth_int A4 B5 _ c4 _ d5 (norm zs) (norm ys) false _ hU14 hV14 (by omega) (by omega)).mono ?_
  rintro e W15 ⟨A15, n15, c15, rfl, hn15, hs15, h15⟩
  have P15 := P14.trans h15
  have cc15 := P15.cellv c0
  have ee15 := P15.cellv e0
  clear cc14 ee14
  rw [filt_false] at hs15
  have hl15 : n15 = n13 := by have h1 := hs15.1; have h2 := hs13.1; simp only [List.length_map, Nat.mul_one] at h1 h2; omega
  subst hl15
  go_wp2_with fail
  refine (same_int A14 A15 _ c14 c15 _ _ (hi14.pu h15) hs15 (by omega)).mono ?_
  rintro e W16 ⟨rfl, h16⟩
  have P16 := P15.trans h16
  have cc16 := P16.cellv c0
  have ee16 := P16.cellv e0
  clear cc15 ee15
  go_wp2_with fail
  refine (both_int A2 B3 _ _ _ _ (norm zs) (norm ys) _ (hsA.pu P16) (hsB.pu P16) (by omega) (by omega) RV.out).mono ?_
  rintro e W17 ⟨A17, n17, c17, rfl, hn17, hs17, h17⟩
  have P17 := P16.trans h17
  have cc17 := P17.cellv c0
  have ee17 := P17.cellv e0
  clear cc16 ee16
  go_wp2_with fail
  refine (items_int A17 _ _ _ _ hs17 (by omega)).mono ?_
  rintro e W18 ⟨A18, c18, rfl, ho18, h18⟩
  have P18 := P17.trans h18
  have cc18 := P18.cellv c0
  have ee18 := P18.cellv e0
  clear cc17 ee17
  have hi18 := Sl.of_own ho18
  have hU18 := (((hU14.pu h15).pu h16).pu h17).pu h18
  have hV18 := (((hV14.pu h15).pu h16).pu h17).pu h18
  go_wp2_with fail
  refine (refBoth_int A4 B5 _ c4 _ d5 (norm zs) (norm ys) true _ hU18 hV18 (by omega) (by omega)).mono ?_
  rintro e W19 ⟨A19, n19, c19, rfl, hn19, hs19, h19⟩
  have P19 := P18.trans h19
  have cc19 := P19.cellv c0
  have ee19 := P19.cellv e0
  clear cc18 ee18
  rw [filt_true] at hs19
  have hl19 : n19 = n17 := by have h1 := hs19.1; have h2 := hs17.1; simp only [List.length_map, Nat.mul_one] at h1 h2; omega
  subst hl19
  go_wp2_with fail
  refine (same_int A18 A19 _ c18 c19 _ _ (hi18.pu h19) hs19 (by omega)).mono ?_
  rintro e W20 ⟨rfl, h20⟩
  have P20 := P19.trans h20
  have cc20 := P20.cellv c0
  have ee20 := P20.cellv e0
  clear cc19 ee19
  go_wp2_with fail
  refine (within_int A2 B3 _ _ _ _ (norm zs) (norm ys) _ (hsA.pu P20) (hsB.pu P20) (by omega) (by omega) RV.out).mono ?_
  rintro e W21 ⟨rfl, h21⟩
  have P21 := P20.trans h21
  have cc21 := P21.cellv c0
  have ee21 := P21.cellv e0
  clear cc20 ee20
  have hU21 := ((hU18.pu h19).pu h20).pu h21
  have hV21 := ((hV18.pu h19).pu h20).pu h21
  rw [within_eq]
  go_wp2_with fail
  refine (refBoth_int A4 B5 _ c4 _ d5 (norm zs) (norm ys) false _ hU21 hV21 (by omega) (by omega)).mono ?_
  rintro e W22 ⟨A22, n22, c22, rfl, hn22, hs22, h22⟩
  have P22 := P21.trans h22
  have cc22 := P22.cellv c0
  have ee22 := P22.cellv e0
  clear cc21 ee21
  rw [filt_false] at hs22
  have hl22 : ((norm zs).filter fun x => !decide (x ∈ norm ys)).length = n22 := by have h1 := hs22.1; simp only [List.length_map, Nat.mul_one] at h1; exact h1
  rw [hl22]
  have hz22 : (n22 == 0) = ((n22 : Int) == 0) := by rw [Bool.eq_iff_iff]; simp
  obtain ⟨q2, hq3⟩ : ∃ q2, ((n22 : Int) == 0) = q2 := ⟨_, rfl⟩
  rw [hz22, hq3]
  clear hl22 hz22
  have hq2 : (q2 == q2) = true := by simp
  go_wp2_with fail
  refine (items_int A2 _ _ (norm zs) _ (hsA.pu P22) (by omega)).mono ?_
  rintro e W23 ⟨A23, c23, rfl, ho23, h23⟩
  have P23 := P22.trans h23
  have cc23 := P23.cellv c0
  have ee23 := P23.cellv e0
  clear cc22 ee22
  have hi23 := Sl.of_own ho23
  go_wp2_with fail
  refine (same_int A23 A4 _ c23 c4 (norm zs) _ hi23 ((hU21.pu h22).pu h23) (by omega)).mono ?_
  rintro e W24 ⟨rfl, h24⟩
  have P24 := P23.trans h24
  have cc24 := P24.cellv c0
  have ee24 := P24.cellv e0
  clear cc23 ee23
  go_wp2
  go_ret
  exact ⟨rfl, H0.trans P24⟩

set_option maxHeartbeats 1600000 in
set_option maxRecDepth 100000 in
theorem sets_big (A B : Option Addr) (n c m d : Nat) (x : Int) (w : World) (hn : n ≤ 9223372036854775807) (hm : m ≤ 9223372036854775807) (hb : 60 < n ∨ 60 < m) :
    Calls Try.prog 6 #[.slice A n c, .slice B m d, .int .i64 x] w fun e w' => e = .returned (.bool true) ∧ Pu w w' := by
  rcases (show 60 < n ∨ (n ≤ 60 ∧ 60 < m) by omega) with h | ⟨h, h1⟩
  all_goals
    clear hb
    go_enter Try.func6, Try.ntmps6
    go_wp2_with fail
    refine (anchor_any _).mono ?_
    rintro e w1 ⟨rfl, H1⟩
    go_wp2
    go_ret
    exact ⟨rfl, H1⟩
end Go.Proofs.Ytckfnbckoclhpaa
