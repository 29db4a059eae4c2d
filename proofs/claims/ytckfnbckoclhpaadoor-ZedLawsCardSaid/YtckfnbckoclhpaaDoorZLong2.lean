/- zed: take, give. -/
import Derived.Test.YtckfnbckoclhpaaDoorZScale
set_option linter.unusedVariables false
namespace Go.Proofs.YtckfnbckoclhpaaDoor
open Go.RowKit

/-- block g begins with the words o -/
def XA (w : World) (g : Nat) (o : List Nat) : Prop := ∃ ys : List Value, Blk w g 67 (wds o ++ ys).toArray
section
variable {w w' : World} {g : Nat} {o : List Nat}
theorem XA.cell (h : XA w g o) {j x : Nat} (hj : o[j]? = some x) : w.cell? ⟨g, j, none⟩ = some (.int .u32 (x : Int)) := by
  obtain ⟨ys, h⟩ := h
  have hl := (List.getElem?_eq_some_iff.1 hj).1
  rw [Blk.cell h j, List.getElem?_toArray, List.getElem?_append_left (by simpa using hl), List.getElem?_map, hj]
  rfl
theorem XA.frozen (h : XA w g o) (j : Nat) : w.frozen? ⟨g, j, none⟩ = false := by
  obtain ⟨ys, h⟩ := h
  exact h.frozen j
theorem XA.set_ (h : XA w g o) {j : Nat} (hj : j < o.length) (y : Nat) : XA (w.setCell ⟨g, j, none⟩ (.int .u32 (y : Int))) g (o.set j y) := by
  obtain ⟨ys, h⟩ := h
  refine ⟨ys, ?_⟩
  have := Blk.set_ h j (.int .u32 (y : Int))
  have e : (wds o ++ ys).toArray.setIfInBounds j (.int .u32 (y : Int)) = (wds (o.set j y) ++ ys).toArray := by
    simp [List.map_set, List.set_append_left _ _ (show j < (o.map fun x : Nat => Value.int .u32 (x : Int)).length by simpa using hj)]
  rw [e] at this
  exact this
theorem XA.pu (h : XA w g o) (hf : Pu w w') : XA w' g o := by
  obtain ⟨ys, h⟩ := h
  exact ⟨ys, h.pu hf⟩
theorem XA.fr {S : Nat → Prop} (h : XA w g o) (hf : Fr S w w') (hs : ¬ S g) : XA w' g o := by
  obtain ⟨ys, h⟩ := h
  exact ⟨ys, h.fr hf hs⟩
theorem XA.lt (h : XA w g o) : g < w.heap.size := by
  obtain ⟨ys, h⟩ := h
  exact h.lt
theorem XA.sl (h : XA w g o) {n c : Nat} (hn : n = o.length) (hc : n ≤ c) : Sl w 1 (some ⟨g, 0, none⟩) n c (wds o) := by
  refine ⟨by simp; omega, hc, fun _ => ⟨g, 0, rfl, h.lt, fun j u hu => ?_⟩⟩
  rw [List.getElem?_map] at hu
  cases hj : o[j]? with
  | none => rw [hj] at hu; cases hu
  | some x =>
    rw [hj] at hu
    injection hu with hu
    rw [Nat.zero_add, h.cell hj, ← hu]
theorem XA.of_own {base n c : Nat} {A : Option Addr} (h : w.ownsRow base 67 1 (.slice A n c) n (wds o)) (hn : 0 < n) : ∃ g, A = some ⟨g, 0, none⟩ ∧ base ≤ g ∧ XA w g o := by
  rcases h.2 with ⟨_, h0⟩ | ⟨g, cap, cur, hv, hb, hg, _, _, _, ht⟩
  · omega
  · injection hv with hA _ _
    refine ⟨g, hA, hb, cur.toList.drop (n * 1), ?_⟩
    unfold Blk
    rw [← ht, List.take_append_drop]
    simpa using hg
end
theorem mid_get (P Q : List Nat) (a : Nat) : (P ++ a :: Q)[P.length]? = some a := by simp
theorem mid_set (P Q : List Nat) (a r : Nat) : (P ++ a :: Q).set P.length r = P ++ r :: Q := by simp

set_option maxHeartbeats 2000000 in
set_option maxRecDepth 100000 in
theorem take_any (gx nx cx : Nat) (lo sg hi : List Nat) (C : Option Addr) (m d : Nat) (ys : List Nat) (at_ q : Nat) (w : World) (hX : XA w gx (lo ++ (sg ++ hi))) (hnx : nx = (lo ++ (sg ++ hi)).length) (hncx : nx ≤ cx) (hn : nx ≤ 100000) (hlo : lo.length = at_) (hsg : sg.length = m + 1)
    (hY : Sl w 1 C m d (wds ys)) (hne : ∀ b off, C = some ⟨b, off, none⟩ → b ≠ gx) (hbs : Below_ 4294967296 sg) (hby : Below_ 4294967296 ys) (hq : q < 4294967296) :
    Calls Tryd.prog 79 #[.slice (some ⟨gx, 0, none⟩) nx cx, .slice C m d, .int .i64 (at_ : Int), .int .u64 (q : Int)] w fun e w' => ∃ (b : Bool) (sg' : List Nat), e = .returned (.bool b) ∧ XA w' gx (lo ++ (sg' ++ hi)) ∧ sg'.length = m + 1 ∧ Below_ 4294967296 sg' ∧ pval 4294967296 sg' + q * pval 4294967296 ys = pval 4294967296 sg + 4294967296 ^ (m + 1) * b.toNat ∧ Fr (fun k => k = gx) w w' := by
  have lys := hY.wlen
  have hnm : at_ + m + 1 ≤ nx := by rw [hnx]; simp; omega
  have HNX := Lib.hid hnx
  clear hnx
  go_enter Tryd.func79, Tryd.ntmps79
  go_wp2_with fail
  go_loopw [9, 10, 15] (fun cv lv iv ws => ∃ (i c l : Nat) (ns : List Nat), i ≤ m ∧ cv = .int .u64 (c : Int) ∧ lv = .int .u32 (l : Int) ∧ iv = .int .i64 (i : Int) ∧ c < 4294967296 ∧ l ≤ 1 ∧ ns.length = i ∧ Below_ 4294967296 ns ∧ pval 4294967296 ns + q * pval 4294967296 (ys.take i) = pval 4294967296 (sg.take i) + 4294967296 ^ i * (c + l) ∧ XA ws gx ((lo ++ ns) ++ (sg.drop i ++ hi)) ∧ Fr (fun k => k = gx) w ws) (fun _ _ iv _ => m - (intOf iv).toNat)
  case atStart => exact ⟨0, 0, 0, [], Nat.zero_le _, rfl, rfl, rfl, by omega, by omega, rfl, Below_.nil _, by simp [pval], by simpa using hX, Fr.refl _ _⟩
  case round =>
    clear hX
    obtain ⟨i, c, l, ns, hi', rfl, rfl, rfl, hc, hl, hnl, hnb, hv, hX, hF⟩ := hrel
    have HV := Lib.hid hv
    clear hv
    obtain ⟨o, ho⟩ : ∃ o, sg[i]? = some o := ⟨_, List.getElem?_eq_getElem (by omega)⟩
    have hob := hbs o (List.mem_of_getElem? ho)
    have hdr : sg.drop i = o :: sg.drop (i + 1) := by
      have hj := (List.getElem?_eq_some_iff.1 ho).1
      rw [List.drop_eq_getElem_cons hj]
      congr 1
      exact (List.getElem?_eq_some_iff.1 ho).2
    rw [hdr] at hX
    have hPl : (lo ++ ns).length = at_ + i := by rw [List.length_append]; omega
    have hcell : wr.cell? ⟨gx, at_ + i, none⟩ = some (.int .u32 (o : Int)) := hX.cell (by rw [← hPl]; exact mid_get (lo ++ ns) _ o)
    have hfz := hX.frozen (at_ + i)
    have hset : ∀ r : Nat, XA (wr.setCell ⟨gx, at_ + i, none⟩ (.int .u32 (r : Int))) gx ((lo ++ ns) ++ r :: (sg.drop (i + 1) ++ hi)) := fun r => by
      have h1 := hX.set_ (j := at_ + i) (by rw [List.length_append, hPl]; simp) r
      have h2 := mid_set (lo ++ ns) (sg.drop (i + 1) ++ hi) o r
      rw [hPl] at h2
      rw [List.cons_append, h2] at h1
      exact h1
    have Hset := Lib.hid hset
    have Ho := Lib.hid ho
    have hwi : IntKind.i64.wrap ((at_ : Int) + (i : Int)) = (at_ : Int) + (i : Int) := IntWalk.i64_in _ (by omega)
    have hi0 : (0 : Int) ≤ (at_ : Int) + (i : Int) := by omega
    have hi1 : (at_ : Int) + (i : Int) < (nx : Int) := by omega
    clear hset ho hdr hX
    by_cases hlt : i < m
    · obtain ⟨x, hx⟩ : ∃ x, ys[i]? = some x := ⟨_, List.getElem?_eq_getElem (by omega)⟩
      have hxb := hby x (List.mem_of_getElem? hx)
      obtain ⟨b1, o1, ea, hb1, c1⟩ := (hY.fr hF (fun _ b off e e1 => hne b off e e1)).wat hx
      have Hx := Lib.hid hx
      clear hx
      subst ea
      have hfit := mul_fits hxb hq hc (o := 0) (by omega)
      have hpB : x * q ≤ 4294967295 * 4294967295 := Nat.mul_le_mul (by omega) (by omega)
      obtain ⟨p, hp⟩ : ∃ p, p = x * q := ⟨_, rfl⟩
      have hpi : (x : Int) * (q : Int) = (p : Int) := by rw [hp, Int.natCast_mul]
      rw [← hp] at hfit hpB
      have hdm := Nat.div_add_mod (c + p) 4294967296
      have hlow := Nat.mod_lt (c + p) (show 4294967296 > 0 by omega)
      have hci : (c + p) / 4294967296 < 4294967296 := by omega
      have e1 : ((c : Int) + (p : Int)) % 4294967296 = (((c + p) % 4294967296 : Nat) : Int) := by omega
      have e2 : ((c : Int) + (p : Int)) / 4294967296 = (((c + p) / 4294967296 : Nat) : Int) := by omega
      have Hp := Lib.hid hp
      generalize (c + p) / 4294967296 = ci at *
      generalize (c + p) % 4294967296 = low at *
      have Hdm := Lib.hid hdm
      have hx64 := u64_small (a := x) (by omega)
      have hp64 := u64_small (a := p) (by omega)
      have hm2 : IntKind.u64.wrap ((c : Int) + (p : Int)) = (c : Int) + (p : Int) := by rw [IntKind.wrap_u64]; omega
      clear hp hdm
      go_wp2_with fail
      refine (sub32_any o low l _ hob hlow hl).mono ?_
      rintro e w1 ⟨rfl, rfl⟩
      obtain ⟨l', hl'⟩ : ∃ l', l' = (if o < low + l then 1 else 0) := ⟨_, rfl⟩
      obtain ⟨r, hr⟩ : ∃ r, r = (o + 4294967296 - low - l) % 4294967296 := ⟨_, rfl⟩
      rw [← hl', ← hr]
      have hl1 : l' ≤ 1 ∧ r < 4294967296 ∧ r + low + l = o + 4294967296 * l' := by
        rw [hl', hr]
        split <;> omega
      have HL := Lib.hid hl1
      clear hl' hr hl1
      go_wp2
      go_roundw
      case rel => exact ⟨i + 1, ci, l', ns ++ [r], by omega, rfl, rfl, by go_num, hci, HL.out.1, by simp [hnl], hnb.snoc HL.out.2.1, by
        have h5 := take_step (w := x) HV.out (by rw [← Hp.out]; exact Hdm.out) HL.out.2.2
        rw [pval_snoc, hnl, pval_take_succ Hx.out, pval_take_succ Ho.out, Nat.pow_succ]
        exact h5, by
        have h6 := Hset.out r
        rw [← List.append_assoc lo, List.append_assoc (lo ++ ns)]
        exact h6, hF.trans (Fr.one _ gx _ _)⟩
      case measure => simp [intOf]; omega
    · obtain rfl : i = m := by omega
      have hc32 : (c : Int) % 4294967296 = (c : Int) := by omega
      go_wp2_with fail
      refine (sub32_any o c l _ hob hc hl).mono ?_
      rintro e w1 ⟨rfl, rfl⟩
      obtain ⟨l', hl'⟩ : ∃ l', l' = (if o < c + l then 1 else 0) := ⟨_, rfl⟩
      obtain ⟨r, hr⟩ : ∃ r, r = (o + 4294967296 - c - l) % 4294967296 := ⟨_, rfl⟩
      rw [← hl', ← hr]
      have hl1 : (l' = 0 ∨ l' = 1) ∧ r < 4294967296 ∧ r + c + l = o + 4294967296 * l' := by
        rw [hl', hr]
        split <;> omega
      have hfin : pval 4294967296 (ns ++ [r]) + q * pval 4294967296 ys = pval 4294967296 sg + 4294967296 ^ (i + 1) * l' := by
        have h1 := HV.out
        rw [List.take_of_length_le (by omega)] at h1
        have h2 : pval 4294967296 sg = pval 4294967296 (sg.take i) + 4294967296 ^ i * o := by
          rw [← pval_take_succ Ho.out, List.take_of_length_le (by omega)]
        rw [pval_snoc, hnl, h2, Nat.pow_succ]
        have h3 : 4294967296 ^ i * (r + c + l) = 4294967296 ^ i * (o + 4294967296 * l') := by rw [hl1.2.2]
        simp only [Nat.mul_add, ← Nat.mul_assoc] at h3 h1 ⊢
        omega
      have Hfin := Lib.hid hfin
      have hXf := Hset.out r
      have hXf2 : XA (wr.setCell ⟨gx, at_ + i, none⟩ (.int .u32 (r : Int))) gx (lo ++ ((ns ++ [r]) ++ hi)) := by
        rw [show sg.drop (i + 1) = [] from List.drop_eq_nil_of_le (by omega), List.nil_append] at hXf
        rw [List.append_assoc ns, ← List.append_assoc lo]
        exact hXf
      have HX2 := Lib.hid hXf2
      have hnb2 := hnb.snoc hl1.2.1
      have hFf := hF.trans (Fr.one wr gx (at_ + i) (.int .u32 (r : Int)))
      have hll := hl1.1
      clear hXf hXf2 hfin hl1 hl' hr Hset
      rcases hll with rfl | rfl
      · go_wp2
        go_ret
        exact ⟨false, ns ++ [r], rfl, HX2.out, by simp [hnl], hnb2, Hfin.out, hFf⟩
      · go_wp2
        go_ret
        exact ⟨true, ns ++ [r], rfl, HX2.out, by simp [hnl], hnb2, Hfin.out, hFf⟩
end Go.Proofs.YtckfnbckoclhpaaDoor
