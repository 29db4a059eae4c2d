/- zed: take, give. zed: give; the sums behind a place of a long division. -/
import Derived.Test.YtckfnbckoclhpaaDoorZScale
set_option linter.unusedVariables false
namespace Go.Proofs.YtckfnbckoclhpaaDoor
open Go.RowKit
/- zed: take, give. -/
/-- block g begins with the words o -/
def XA (w : World) (g : Nat) (o : List Nat) : Prop := ∃ ys : List Value, Blk w g 67 (wds o ++ ys).toArray
section
variable {w w' : World} {g : Nat} {o : List Nat}
theorem XA.cell (h : XA w g o) {j x : Nat} (hj : o[j]? = some x) : w.cell? ⟨g, j, none⟩ = some (.int .u32 (x : Int)) := by
  obtain ⟨ys, h⟩ := h
  have hl := (List.getElem?_eq_some_iff.1 hj).1
  rw [Blk.cell h j, List.getElem?_toArray, List.getElem?_append_left (by simpa using hl), List.getElem?_map, hj]
  rfl
theorem XA.frozen (h : XA w g o) (j : Nat) : w.frozen? ⟨g, j, none⟩ = false := by
  obtain ⟨ys, h⟩ := h
  exact h.frozen j
theorem XA.set_ (h : XA w g o) {j : Nat} (hj : j < o.length) (y : Nat) : XA (w.setCell ⟨g, j, none⟩ (.int .u32 (y : Int))) g (o.set j y) := by
  obtain ⟨ys, h⟩ := h
  refine ⟨ys, ?_⟩
  have := Blk.set_ h j (.int .u32 (y : Int))
  have e : (wds o ++ ys).toArray.setIfInBounds j (.int .u32 (y : Int)) = (wds (o.set j y) ++ ys).toArray := by
    simp [List.map_set, List.set_append_left _ _ (show j < (o.map fun x : Nat => Value.int .u32 (x : Int)).length by simpa using hj)]
  rw [e] at this
  exact this
theorem XA.pu (h : XA w g o) (hf : Pu w w') : XA w' g o := by
  obtain ⟨ys, h⟩ := h
  exact ⟨ys, h.pu hf⟩
theorem XA.fr {S : Nat → Prop} (h : XA w g o) (hf : Fr S w w') (hs : ¬ S g) : XA w' g o := by
  obtain ⟨ys, h⟩ := h
  exact ⟨ys, h.fr hf hs⟩
theorem XA.lt (h : XA w g o) : g < w.heap.size := by
  obtain ⟨ys, h⟩ := h
  exact h.lt
theorem XA.sl (h : XA w g o) {n c : Nat} (hn : n = o.length) (hc : n ≤ c) : Sl w 1 (some ⟨g, 0, none⟩) n c (wds o) := by
  refine ⟨by simp; omega, hc, fun _ => ⟨g, 0, rfl, h.lt, fun j u hu => ?_⟩⟩
  rw [List.getElem?_map] at hu
  cases hj : o[j]? with
  | none => rw [hj] at hu; cases hu
  | some x =>
    rw [hj] at hu
    injection hu with hu
    rw [Nat.zero_add, h.cell hj, ← hu]
theorem XA.of_own {base n c : Nat} {A : Option Addr} (h : w.ownsRow base 67 1 (.slice A n c) n (wds o)) (hn : 0 < n) : ∃ g, A = some ⟨g, 0, none⟩ ∧ base ≤ g ∧ XA w g o := by
  rcases h.2 with ⟨_, h0⟩ | ⟨g, cap, cur, hv, hb, hg, _, _, _, ht⟩
  · omega
  · injection hv with hA _ _
    refine ⟨g, hA, hb, cur.toList.drop (n * 1), ?_⟩
    unfold Blk
    rw [← ht, List.take_append_drop]
    simpa using hg
end
theorem mid_get (P Q : List Nat) (a : Nat) : (P ++ a :: Q)[P.length]? = some a := by simp
theorem mid_set (P Q : List Nat) (a r : Nat) : (P ++ a :: Q).set P.length r = P ++ r :: Q := by simp

set_option maxHeartbeats 2000000 in
set_option maxRecDepth 100000 in
theorem take_any (gx nx cx : Nat) (lo sg hi : List Nat) (C : Option Addr) (m d : Nat) (ys : List Nat) (at_ q : Nat) (w : World) (hX : XA w gx (lo ++ (sg ++ hi))) (hnx : nx = (lo ++ (sg ++ hi)).length) (hncx : nx ≤ cx) (hn : nx ≤ 100000) (hlo : lo.length = at_) (hsg : sg.length = m + 1)
    (hY : Sl w 1 C m d (wds ys)) (hne : ∀ b off, C = some ⟨b, off, none⟩ → b ≠ gx) (hbs : Below_ 4294967296 sg) (hby : Below_ 4294967296 ys) (hq : q < 4294967296) :
    Calls Tryd.prog 79 #[.slice (some ⟨gx, 0, none⟩) nx cx, .slice C m d, .int .i64 (at_ : Int), .int .u64 (q : Int)] w fun e w' => ∃ (b : Bool) (sg' : List Nat), e = .returned (.bool b) ∧ XA w' gx (lo ++ (sg' ++ hi)) ∧ sg'.length = m + 1 ∧ Below_ 4294967296 sg' ∧ pval 4294967296 sg' + q * pval 4294967296 ys = pval 4294967296 sg + 4294967296 ^ (m + 1) * b.toNat ∧ Fr (fun k => k = gx) w w' := by
  have lys := hY.wlen
  have hnm : at_ + m + 1 ≤ nx := by rw [hnx]; simp; omega
  have HNX := Lib.hid hnx
  clear hnx
  go_enter Tryd.func79, Tryd.ntmps79
  go_wp2_with fail
  go_loopw [9, 10, 15] (fun cv lv iv ws => ∃ (i c l : Nat) (ns : List Nat), i ≤ m ∧ cv = .int .u64 (c : Int) ∧ lv = .int .u32 (l : Int) ∧ iv = .int .i64 (i : Int) ∧ c < 4294967296 ∧ l ≤ 1 ∧ ns.length = i ∧ Below_ 4294967296 ns ∧ pval 4294967296 ns + q * pval 4294967296 (ys.take i) = pval 4294967296 (sg.take i) + 4294967296 ^ i * (c + l) ∧ XA ws gx ((lo ++ ns) ++ (sg.drop i ++ hi)) ∧ Fr (fun k => k = gx) w ws) (fun _ _ iv _ => m - (intOf iv).toNat)
  case atStart => exact ⟨0, 0, 0, [], Nat.zero_le _, rfl, rfl, rfl, by omega, by omega, rfl, Below_.nil _, by simp [pval], by simpa using hX, Fr.refl _ _⟩
  case round =>
    clear hX
    obtain ⟨i, c, l, ns, hi', rfl, rfl, rfl, hc, hl, hnl, hnb, hv, hX, hF⟩ := hrel
    have HV := Lib.hid hv
    clear hv
    obtain ⟨o, ho⟩ : ∃ o, sg[i]? = some o := ⟨_, List.getElem?_eq_getElem (by omega)⟩
    have hob := hbs o (List.mem_of_getElem? ho)
    have hdr : sg.drop i = o :: sg.drop (i + 1) := by
      have hj := (List.getElem?_eq_some_iff.1 ho).1
      rw [List.drop_eq_getElem_cons hj]
      congr 1
      exact (List.getElem?_eq_some_iff.1 ho).2
    rw [hdr] at hX
    have hPl : (lo ++ ns).length = at_ + i := by rw [List.length_append]; omega
    have hcell : wr.cell? ⟨gx, at_ + i, none⟩ = some (.int .u32 (o : Int)) := hX.cell (by rw [← hPl]; exact mid_get (lo ++ ns) _ o)
    have hfz := hX.frozen (at_ + i)
    have hset : ∀ r : Nat, XA (wr.setCell ⟨gx, at_ + i, none⟩ (.int .u32 (r : Int))) gx ((lo ++ ns) ++ r :: (sg.drop (i + 1) ++ hi)) := fun r => by
      have h1 := hX.set_ (j := at_ + i) (by rw [List.length_append, hPl]; simp) r
      have h2 := mid_set (lo ++ ns) (sg.drop (i + 1) ++ hi) o r
      rw [hPl] at h2
      rw [List.cons_append, h2] at h1
      exact h1
    have Hset := Lib.hid hset
    have Ho := Lib.hid ho
    have hwi : IntKind.i64.wrap ((at_ : Int) + (i : Int)) = (at_ : Int) + (i : Int) := IntWalk.i64_in _ (by omega)
    have hi0 : (0 : Int) ≤ (at_ : Int) + (i : Int) := by omega
    have hi1 : (at_ : Int) + (i : Int) < (nx : Int) := by omega
    clear hset ho hdr hX
    by_cases hlt : i < m
    · obtain ⟨x, hx⟩ : ∃ x, ys[i]? = some x := ⟨_, List.getElem?_eq_getElem (by omega)⟩
      have hxb := hby x (List.mem_of_getElem? hx)
      obtain ⟨b1, o1, ea, hb1, c1⟩ := (hY.fr hF (fun _ b off e e1 => hne b off e e1)).wat hx
      have Hx := Lib.hid hx
      clear hx
      subst ea
      have hfit := mul_fits hxb hq hc (o := 0) (by omega)
      have hpB : x * q ≤ 4294967295 * 4294967295 := Nat.mul_le_mul (by omega) (by omega)
      obtain ⟨p, hp⟩ : ∃ p, p = x * q := ⟨_, rfl⟩
      have hpi : (x : Int) * (q : Int) = (p : Int) := by rw [hp, Int.natCast_mul]
      rw [← hp] at hfit hpB
      have hdm := Nat.div_add_mod (c + p) 4294967296
      have hlow := Nat.mod_lt (c + p) (show 4294967296 > 0 by omega)
      have hci : (c + p) / 4294967296 < 4294967296 := by omega
      have e1 : ((c : Int) + (p : Int)) % 4294967296 = (((c + p) % 4294967296 : Nat) : Int) := by omega
      have e2 : ((c : Int) + (p : Int)) / 4294967296 = (((c + p) / 4294967296 : Nat) : Int) := by omega
      have Hp := Lib.hid hp
      generalize (c + p) / 4294967296 = ci at *
      generalize (c + p) % 4294967296 = low at *
      have Hdm := Lib.hid hdm
      have hx64 := u64_small (a := x) (by omega)
      have hp64 := u64_small (a := p) (by omega)
      have hm2 : IntKind.u64.wrap ((c : Int) + (p : Int)) = (c : Int) + (p : Int) := by rw [IntKind.wrap_u64]; omega
      clear hp hdm
      go_wp2_with fail
      refine (sub32_any o low l _ hob hlow hl).mono ?_
      rintro e w1 ⟨rfl, rfl⟩
      obtain ⟨l', hl'⟩ : ∃ l', l' = (if o < low + l then 1 else 0) := ⟨_, rfl⟩
      obtain ⟨r, hr⟩ : ∃ r, r = (o + 4294967296 - low - l) % 4294967296 := ⟨_, rfl⟩
      rw [← hl', ← hr]
      have hl1 : l' ≤ 1 ∧ r < 4294967296 ∧ r + low + l = o + 4294967296 * l' := by
        rw [hl', hr]
        split <;> omega
      have HL := Lib.hid hl1
      clear hl' hr hl1
      go_wp2
      go_roundw
      case rel => exact ⟨i + 1, ci, l', ns ++ [r], by omega, rfl, rfl, by go_num, hci, HL.out.1, by simp [hnl], hnb.snoc HL.out.2.1, by
        have h5 := take_step (w := x) HV.out (by rw [← Hp.out]; exact Hdm.out) HL.out.2.2
        rw [pval_snoc, hnl, pval_take_succ Hx.out, pval_take_succ Ho.out, Nat.pow_succ]
        exact h5, by
        have h6 := Hset.out r
        rw [← List.append_assoc lo, List.append_assoc (lo ++ ns)]
        exact h6, hF.trans (Fr.one _ gx _ _)⟩
      case measure => simp [intOf]; omega
    · obtain rfl : i = m := by omega
      have hc32 : (c : Int) % 4294967296 = (c : Int) := by omega
      go_wp2_with fail
      refine (sub32_any o c l _ hob hc hl).mono ?_
      rintro e w1 ⟨rfl, rfl⟩
      obtain ⟨l', hl'⟩ : ∃ l', l' = (if o < c + l then 1 else 0) := ⟨_, rfl⟩
      obtain ⟨r, hr⟩ : ∃ r, r = (o + 4294967296 - c - l) % 4294967296 := ⟨_, rfl⟩
      rw [← hl', ← hr]
      have hl1 : (l' = 0 ∨ l' = 1) ∧ r < 4294967296 ∧ r + c + l = o + 4294967296 * l' := by
        rw [hl', hr]
        split <;> omega
      have hfin : pval 4294967296 (ns ++ [r]) + q * pval 4294967296 ys = pval 4294967296 sg + 4294967296 ^ (i + 1) * l' := by
        have h1 := HV.out
        rw [List.take_of_length_le (by omega)] at h1
        have h2 : pval 4294967296 sg = pval 4294967296 (sg.take i) + 4294967296 ^ i * o := by
          rw [← pval_take_succ Ho.out, List.take_of_length_le (by omega)]
        rw [pval_snoc, hnl, h2, Nat.pow_succ]
        have h3 : 4294967296 ^ i * (r + c + l) = 4294967296 ^ i * (o + 4294967296 * l') := by rw [hl1.2.2]
        simp only [Nat.mul_add, ← Nat.mul_assoc] at h3 h1 ⊢
        omega
      have Hfin := Lib.hid hfin
      have hXf := Hset.out r
      have hXf2 : XA (wr.setCell ⟨gx, at_ + i, none⟩ (.int .u32 (r : Int))) gx (lo ++ ((ns ++ [r]) ++ hi)) := by
        rw [show sg.drop (i + 1) = [] from List.drop_eq_nil_of_le (by omega), List.nil_append] at hXf
        rw [List.append_assoc ns, ← List.append_assoc lo]
        exact hXf
      have HX2 := Lib.hid hXf2
      have hnb2 := hnb.snoc hl1.2.1
      have hFf := hF.trans (Fr.one wr gx (at_ + i) (.int .u32 (r : Int)))
      have hll := hl1.1
      clear hXf hXf2 hfin hl1 hl' hr Hset
      rcases hll with rfl | rfl
      · go_wp2
        go_ret
        exact ⟨false, ns ++ [r], rfl, HX2.out, by simp [hnl], hnb2, Hfin.out, hFf⟩
      · go_wp2
        go_ret
        exact ⟨true, ns ++ [r], rfl, HX2.out, by simp [hnl], hnb2, Hfin.out, hFf⟩

/- zed: give; the sums behind a place of a long division. -/
set_option maxHeartbeats 2000000 in
set_option maxRecDepth 100000 in
theorem give_any (gx nx cx : Nat) (lo sg hi : List Nat) (C : Option Addr) (m d : Nat) (ys : List Nat) (at_ : Nat) (w : World) (hX : XA w gx (lo ++ (sg ++ hi))) (hnx : nx = (lo ++ (sg ++ hi)).length) (hncx : nx ≤ cx) (hn : nx ≤ 100000) (hlo : lo.length = at_) (hsg : sg.length = m + 1)
    (hY : Sl w 1 C m d (wds ys)) (hne : ∀ b off, C = some ⟨b, off, none⟩ → b ≠ gx) (hbs : Below_ 4294967296 sg) (hby : Below_ 4294967296 ys) :
    Calls Tryd.prog 80 #[.slice (some ⟨gx, 0, none⟩) nx cx, .slice C m d, .int .i64 (at_ : Int)] w fun e w' => ∃ (b : Nat) (sg' : List Nat), e = .returned (.tuple #[]) ∧ XA w' gx (lo ++ (sg' ++ hi)) ∧ sg'.length = m + 1 ∧ Below_ 4294967296 sg' ∧ pval 4294967296 sg' + 4294967296 ^ (m + 1) * b = pval 4294967296 sg + pval 4294967296 ys ∧ Fr (fun k => k = gx) w w' := by
  have lys := hY.wlen
  have hnm : at_ + m + 1 ≤ nx := by rw [hnx]; simp; omega
  have HNX := Lib.hid hnx
  clear hnx
  go_enter Tryd.func80, Tryd.ntmps80
  go_wp2_with fail
  go_loopw [6, 11] (fun cv iv ws => ∃ (i c : Nat) (ns : List Nat), i ≤ m ∧ cv = .int .u32 (c : Int) ∧ iv = .int .i64 (i : Int) ∧ c ≤ 1 ∧ ns.length = i ∧ Below_ 4294967296 ns ∧ pval 4294967296 ns + 4294967296 ^ i * c = pval 4294967296 (sg.take i) + pval 4294967296 (ys.take i) ∧ XA ws gx ((lo ++ ns) ++ (sg.drop i ++ hi)) ∧ Fr (fun k => k = gx) w ws) (fun _ iv _ => m - (intOf iv).toNat)
  case atStart => exact ⟨0, 0, [], Nat.zero_le _, rfl, rfl, by omega, rfl, Below_.nil _, by simp [pval], by simpa using hX, Fr.refl _ _⟩
  case round =>
    clear hX
    obtain ⟨i, c, ns, hi', rfl, rfl, hc, hnl, hnb, hv, hX, hF⟩ := hrel
    have HV := Lib.hid hv
    clear hv
    obtain ⟨o, ho⟩ : ∃ o, sg[i]? = some o := ⟨_, List.getElem?_eq_getElem (by omega)⟩
    have hob := hbs o (List.mem_of_getElem? ho)
    have hdr : sg.drop i = o :: sg.drop (i + 1) := by
      have hj := (List.getElem?_eq_some_iff.1 ho).1
      rw [List.drop_eq_getElem_cons hj]
      congr 1
      exact (List.getElem?_eq_some_iff.1 ho).2
    rw [hdr] at hX
    have hPl : (lo ++ ns).length = at_ + i := by rw [List.length_append]; omega
    have hcell : wr.cell? ⟨gx, at_ + i, none⟩ = some (.int .u32 (o : Int)) := hX.cell (by rw [← hPl]; exact mid_get (lo ++ ns) _ o)
    have hfz := hX.frozen (at_ + i)
    have hset : ∀ r : Nat, XA (wr.setCell ⟨gx, at_ + i, none⟩ (.int .u32 (r : Int))) gx ((lo ++ ns) ++ r :: (sg.drop (i + 1) ++ hi)) := fun r => by
      have h1 := hX.set_ (j := at_ + i) (by rw [List.length_append, hPl]; simp) r
      have h2 := mid_set (lo ++ ns) (sg.drop (i + 1) ++ hi) o r
      rw [hPl] at h2
      rw [List.cons_append, h2] at h1
      exact h1
    have Hset := Lib.hid hset
    have Ho := Lib.hid ho
    have hwi : IntKind.i64.wrap ((at_ : Int) + (i : Int)) = (at_ : Int) + (i : Int) := IntWalk.i64_in _ (by omega)
    have hi0 : (0 : Int) ≤ (at_ : Int) + (i : Int) := by omega
    have hi1 : (at_ : Int) + (i : Int) < (nx : Int) := by omega
    clear hset ho hdr hX
    by_cases hlt : i < m
    · obtain ⟨x, hx⟩ : ∃ x, ys[i]? = some x := ⟨_, List.getElem?_eq_getElem (by omega)⟩
      have hxb := hby x (List.mem_of_getElem? hx)
      obtain ⟨b1, o1, ea, hb1, c1⟩ := (hY.fr hF (fun _ b off e e1 => hne b off e e1)).wat hx
      have Hx := Lib.hid hx
      clear hx
      subst ea
      go_wp2_with fail
      refine (add32_any o x c _ hob hxb hc).mono ?_
      rintro e w1 ⟨rfl, rfl⟩
      have hdm := Nat.div_add_mod (o + x + c) 4294967296
      have hr := Nat.mod_lt (o + x + c) (show 4294967296 > 0 by omega)
      have hq : (o + x + c) / 4294967296 ≤ 1 := by omega
      generalize (o + x + c) / 4294967296 = q at *
      generalize (o + x + c) % 4294967296 = r at *
      have Hdm := Lib.hid hdm
      clear hdm
      go_wp2
      go_roundw
      case rel => exact ⟨i + 1, q, ns ++ [r], by omega, rfl, by go_num, hq, by simp [hnl], hnb.snoc hr, by
        rw [pval_snoc, hnl, pval_take_succ Hx.out, pval_take_succ Ho.out, Nat.pow_succ]
        have h5 := carry_step HV.out (v := o + x) Hdm.out
        rw [Nat.mul_add] at h5
        omega, by
        have h6 := Hset.out r
        rw [← List.append_assoc lo, List.append_assoc (lo ++ ns)]
        exact h6, hF.trans (Fr.one _ gx _ _)⟩
      case measure => simp [intOf]; omega
    · obtain rfl : i = m := by omega
      have hdm := Nat.div_add_mod (o + c) 4294967296
      have hr := Nat.mod_lt (o + c) (show 4294967296 > 0 by omega)
      have hwr : IntKind.u32.wrap ((o : Int) + (c : Int)) = (((o + c) % 4294967296 : Nat) : Int) := by rw [IntKind.wrap_u32]; omega
      have hwr2 : ((o : Int) + (c : Int)) % 4294967296 = (((o + c) % 4294967296 : Nat) : Int) := by omega
      generalize (o + c) / 4294967296 = q at *
      generalize (o + c) % 4294967296 = r at *
      have hfin : pval 4294967296 (ns ++ [r]) + 4294967296 ^ (i + 1) * q = pval 4294967296 sg + pval 4294967296 ys := by
        have h1 := HV.out
        rw [List.take_of_length_le (l := ys) (by omega)] at h1
        have h2 : pval 4294967296 sg = pval 4294967296 (sg.take i) + 4294967296 ^ i * o := by
          rw [← pval_take_succ Ho.out, List.take_of_length_le (by omega)]
        rw [pval_snoc, hnl, h2, Nat.pow_succ]
        have h5 := carry_step h1 (v := o) hdm
        omega
      have Hfin := Lib.hid hfin
      have hXf := Hset.out r
      have hXf2 : XA (wr.setCell ⟨gx, at_ + i, none⟩ (.int .u32 (r : Int))) gx (lo ++ ((ns ++ [r]) ++ hi)) := by
        rw [show sg.drop (i + 1) = [] from List.drop_eq_nil_of_le (by omega), List.nil_append] at hXf
        rw [List.append_assoc ns, ← List.append_assoc lo]
        exact hXf
      have HX2 := Lib.hid hXf2
      have hnb2 := hnb.snoc hr
      have hFf := hF.trans (Fr.one wr gx (at_ + i) (.int .u32 (r : Int)))
      clear hXf hXf2 hfin hdm Hset
      go_wp2
      refine bodyPost_end (results_none rfl _ _ _) rfl ?_
      exact ⟨q, ns ++ [r], rfl, HX2.out, by simp [hnl], hnb2, Hfin.out, hFf⟩

theorem sub_pow {P y n : Nat} (h : y < P) : y < P * (n + 1) := Nat.lt_of_lt_of_le h (Nat.le_mul_of_pos_right _ (by omega))
/-- a place of a long division: the parts of the dividend, and what the leading words say -/
theorem long_place (xs ys : List Nat) (at_ m hi mid low top next : Nat) (hx : Below_ 4294967296 xs) (hy : Below_ 4294967296 ys) (hm : 2 ≤ m) (hly : ys.length = m) (hN : at_ + m < xs.length) (hr : pval 4294967296 (xs.drop (at_ + 1)) < pval 4294967296 ys) (htop : 0 < top)
    (h1 : xs[at_ + m]? = some hi) (h2 : xs[at_ + m - 1]? = some mid) (h3 : xs[at_ + m - 2]? = some low) (h4 : ys[m - 1]? = some top) (h5 : ys[m - 2]? = some next) :
    ∃ lo sg h', xs = lo ++ (sg ++ h') ∧ lo.length = at_ ∧ sg.length = m + 1 ∧ Below_ 4294967296 sg ∧ pval 4294967296 h' = 0 ∧ pval 4294967296 (xs.drop at_) = pval 4294967296 sg ∧ pval 4294967296 sg < 4294967296 * pval 4294967296 ys ∧ pval 4294967296 sg < 4294967296 ^ (m + 1) ∧ hi ≤ top ∧
      (top * 4294967296 + next) * 4294967296 ^ (m - 2) ≤ pval 4294967296 ys ∧ pval 4294967296 ys < (top * 4294967296 + next + 1) * 4294967296 ^ (m - 2) ∧
      ((hi * 4294967296 + mid) * 4294967296 + low) * 4294967296 ^ (m - 2) ≤ pval 4294967296 sg ∧ pval 4294967296 sg < ((hi * 4294967296 + mid) * 4294967296 + low + 1) * 4294967296 ^ (m - 2) := by
  obtain ⟨n, rfl⟩ : ∃ n, m = n + 2 := ⟨m - 2, by omega⟩
  simp only [Nat.add_sub_cancel, show n + 2 - 1 = n + 1 by omega, show at_ + (n + 2) - 1 = at_ + n + 1 by omega, show at_ + (n + 2) - 2 = at_ + n by omega] at *
  obtain ⟨P, hP⟩ : ∃ P, P = 4294967296 ^ n := ⟨_, rfl⟩
  -- the divisor
  have y1 := pval_cut 4294967296 ys n (by omega)
  have y2 := pval_lt (hy.take n)
  rw [List.length_take, Nat.min_eq_left (by omega)] at y2
  rw [pval_drop_at h5, pval_drop_at h4, List.drop_eq_nil_of_le (show ys.length ≤ n + 1 + 1 by omega)] at y1
  simp only [pval, Nat.mul_zero, Nat.add_zero] at y1
  -- the dividend's place
  have x1 := pval_cut 4294967296 (xs.drop at_) (n + 3) (by rw [List.length_drop]; omega)
  have hsgl : ((xs.drop at_).take (n + 3)).length = n + 3 := by rw [List.length_take, List.length_drop]; omega
  obtain ⟨x, hx0⟩ : ∃ x, xs[at_]? = some x := ⟨_, List.getElem?_eq_getElem (by omega)⟩
  have hxB := hx x (List.mem_of_getElem? hx0)
  have x2 := pval_drop_at (b := 4294967296) hx0
  have x3 : pval 4294967296 (xs.drop at_) < 4294967296 * pval 4294967296 ys := by rw [x2]; omega
  have hyl := pval_lt hy
  rw [hly] at hyl
  have x4 : pval 4294967296 (xs.drop at_) < 4294967296 ^ (n + 3) := by
    rw [show n + 3 = (n + 2) + 1 by omega, Nat.pow_succ]
    omega
  have x5 : pval 4294967296 ((xs.drop at_).drop (n + 3)) = 0 := by
    rcases Nat.eq_zero_or_pos (pval 4294967296 ((xs.drop at_).drop (n + 3))) with h | h
    · exact h
    · have := Nat.mul_le_mul_left (4294967296 ^ (n + 3)) h
      omega
  rw [x5, Nat.mul_zero, Nat.add_zero] at x1
  have hsgB : Below_ 4294967296 ((xs.drop at_).take (n + 3)) := (hx.drop at_).take _
  generalize hsg : (xs.drop at_).take (n + 3) = sg at *
  have g1 : sg[n + 2]? = some hi := by rw [← hsg, List.getElem?_take, if_pos (by omega), List.getElem?_drop]; exact h1
  have g2 : sg[n + 1]? = some mid := by rw [← hsg, List.getElem?_take, if_pos (by omega), List.getElem?_drop]; exact h2
  have g3 : sg[n]? = some low := by rw [← hsg, List.getElem?_take, if_pos (by omega), List.getElem?_drop]; exact h3
  have s1 := pval_cut 4294967296 sg n (by omega)
  have s2 := pval_lt (hsgB.take n)
  rw [List.length_take, Nat.min_eq_left (by omega)] at s2
  rw [pval_drop_at g3, pval_drop_at g2, pval_drop_at g1, List.drop_eq_nil_of_le (show sg.length ≤ n + 2 + 1 by omega)] at s1
  simp only [pval, Nat.mul_zero, Nat.add_zero] at s1
  rw [← hP] at y1 y2 s1 s2
  have hPp : 0 < P := by rw [hP]; exact Nat.pow_pos (by decide)
  have midB := hx mid (List.mem_of_getElem? h2)
  have nextB := hy next (List.mem_of_getElem? h5)
  refine ⟨xs.take at_, sg, (xs.drop at_).drop (n + 3), ?_, by rw [List.length_take]; omega, hsgl, hsgB, x5, x1, by rw [← x1]; exact x3, by rw [← x1]; exact x4, ?_, ?_, ?_, ?_, ?_⟩
  · rw [← hsg, List.take_append_drop, List.take_append_drop]
  · -- hi ≤ top
    rcases Nat.lt_or_ge top hi with h | h
    · exfalso
      have e1 : P * (low + 4294967296 * (mid + 4294967296 * hi)) ≥ P * (4294967296 * (4294967296 * (top + 1))) := Nat.mul_le_mul_left _ (by omega)
      have e2 : P * (next + 4294967296 * top) ≤ P * (4294967296 * (top + 1) - 1) := Nat.mul_le_mul_left _ (by omega)
      have e3 : P * (4294967296 * (top + 1) - 1) = P * (4294967296 * (top + 1)) - P := by rw [Nat.mul_sub, Nat.mul_one]
      have e4 : P * (4294967296 * (4294967296 * (top + 1))) = 4294967296 * (P * (4294967296 * (top + 1))) := by rw [Nat.mul_left_comm]
      have e5 : P ≤ P * (4294967296 * (top + 1)) := Nat.le_mul_of_pos_right _ (by omega)
      rw [x1] at x3
      omega
    · exact h
  · rw [← hP, y1, Nat.mul_comm]
    have : next + 4294967296 * top = top * 4294967296 + next := by omega
    rw [this]
    omega
  · rw [← hP, Nat.add_mul (top * 4294967296 + next), Nat.one_mul, Nat.mul_comm (top * 4294967296 + next), y1]
    have : next + 4294967296 * top = top * 4294967296 + next := by omega
    rw [this]
    omega
  · rw [← hP, s1, Nat.mul_comm]
    have : low + 4294967296 * (mid + 4294967296 * hi) = (hi * 4294967296 + mid) * 4294967296 + low := by omega
    rw [this]
    omega
  · rw [← hP, Nat.add_mul ((hi * 4294967296 + mid) * 4294967296 + low), Nat.one_mul, Nat.mul_comm ((hi * 4294967296 + mid) * 4294967296 + low), s1]
    have : low + 4294967296 * (mid + 4294967296 * hi) = (hi * 4294967296 + mid) * 4294967296 + low := by omega
    rw [this]
    omega
end Go.Proofs.YtckfnbckoclhpaaDoor
