/-
  ShareAll: the plain law of sharing out without a rest, and the walk.
-/
import Derived.Test.YtncobbhhjkdllaaLaw04
import Derived.Test.YtncobbhhjkdllaaLaw04c
namespace Go.Proofs.Ytncobbhhjkdllaa
open Go.RowKit
set_option linter.unusedVariables false

theorem getD_set (l : List Nat) (i j x : Nat) : (l.set i x).getD j 0 = if i = j ∧ i < l.length then x else l.getD j 0 := by
  simp only [List.getD_eq_getElem?_getD, List.getElem?_set]
  by_cases h : i = j
  · subst h
    by_cases h2 : i < l.length
    · simp [h2]
    · simp [h2]
  · simp [h]
/-- Behind the first i places: each place has its part, or one more where it has a weight and lies below i. -/
theorem spreadI_at (l ws : List Nat) (r : Nat) (j : Nat) : ∀ i, (spreadI l ws r i).1.getD j 0 = l.getD j 0 ∨ ((spreadI l ws r i).1.getD j 0 = l.getD j 0 + 1 ∧ 0 < ws.getD j 0 ∧ j < i)
  | 0 => .inl rfl
  | i + 1 => by
    have ih := spreadI_at l ws r j i
    have ihi := spreadI_at l ws r i i
    have hi : (spreadI l ws r i).1.getD i 0 = l.getD i 0 := by
      rcases ihi with h | ⟨_, _, h⟩
      · exact h
      · omega
    simp only [spreadI]
    split
    · rename_i hc
      rw [getD_set]
      split
      · rename_i hij
        obtain ⟨rfl, hl⟩ := hij
        exact .inr ⟨by rw [hi], hc.1, by omega⟩
      · rcases ih with h | ⟨h1, h2, h3⟩
        · exact .inl h
        · exact .inr ⟨h1, h2, by omega⟩
    · rcases ih with h | ⟨h1, h2, h3⟩
      · exact .inl h
      · exact .inr ⟨h1, h2, by omega⟩
theorem spreadI_rest (l ws : List Nat) (r : Nat) : ∀ i, (spreadI l ws r i).2 = r - posI ws i
  | 0 => by simp [spreadI, posI]
  | i + 1 => by
    have ih := spreadI_rest l ws r i
    simp only [spreadI, posI]
    by_cases h1 : 0 < ws.getD i 0
    · by_cases h2 : 0 < (spreadI l ws r i).2
      · rw [if_pos ⟨h1, h2⟩, if_pos h1]; simp only []; omega
      · rw [if_neg (fun h => h2 h.2), if_pos h1]; omega
    · rw [if_neg (fun h => h1 h.1), if_neg h1]; omega
theorem spreadV_total {t : Nat} {xs : List Nat} (he : wholeE xs = 0) (h0 : total xs ≠ 0) : total (spreadV t xs) = t ∧ (spreadV t xs).length = xs.length := by
  have hv : spreadV t xs = (spreadI (partsN t xs) xs (t - total (partsN t xs)) xs.length).1 := by simp [spreadV, he, h0]
  have hl : (partsN t xs).length = xs.length := by simp [partsN]
  have h1 := spreadI_sum (partsN t xs) xs (t - total (partsN t xs)) xs.length (by rw [hl]; exact Nat.le_refl _)
  have h2 := spreadI_rest (partsN t xs) xs (t - total (partsN t xs)) xs.length
  have h3 := rest_some (t := t) (xs := xs) (by omega)
  have h4 := partsN_le t xs
  rw [hv]
  exact ⟨by omega, by rw [spreadI_len, hl]⟩
theorem spreadV_at {t : Nat} {xs : List Nat} (he : wholeE xs = 0) (h0 : total xs ≠ 0) (i : Nat) : (xs.getD i 0 = 0 ∧ (spreadV t xs).getD i 0 = 0 ∧ (partsN t xs).getD i 0 = 0) ∨ (0 < xs.getD i 0 ∧ ((spreadV t xs).getD i 0 = (partsN t xs).getD i 0 ∨ (spreadV t xs).getD i 0 = (partsN t xs).getD i 0 + 1)) := by
  have hv : spreadV t xs = (spreadI (partsN t xs) xs (t - total (partsN t xs)) xs.length).1 := by simp [spreadV, he, h0]
  have h1 := spreadI_at (partsN t xs) xs (t - total (partsN t xs)) i xs.length
  rw [← hv] at h1
  rcases Nat.eq_zero_or_pos (xs.getD i 0) with hz | hp
  · have hp0 : (partsN t xs).getD i 0 = 0 := by rw [partsN_at, hz, partN_zero]
    refine .inl ⟨hz, ?_, hp0⟩
    rcases h1 with h | ⟨_, h, _⟩ <;> omega
  · refine .inr ⟨hp, ?_⟩
    rcases h1 with h | ⟨h, _, _⟩
    · exact .inl h
    · exact .inr h
set_option maxHeartbeats 4000000 in
set_option maxRecDepth 100000 in
theorem shareAll_any (t n c : Nat) (A : Option Addr) (xs : List Nat) (ht : t < 18446744073709551616) (hn : xs.length = n) (hx : ∀ i, xs.getD i 0 < 18446744073709551616) (hm : n ≤ 9223372036854775807) (w : World) (hU : U64s w A xs) :
    Calls Try.prog 12 #[.int .u64 t, .slice A n c] w fun e w' => e = .returned (.bool true) ∧ Below w.heap.size w w' := by
  by_cases hbig : (100 : Int) < (n : Int)
  · clear hU hx hn
    go_enter Try.func12, Try.ntmps12
    go_wp2_with fail
    refine (awake04_any _).mono ?_
    rintro e w1 ⟨rfl, hb1⟩
    go_wp2_with fail
    go_ret
    exact ⟨rfl, hb1⟩
  · have HG := Lib.hid (u64s_got hU)
    have H3 := Lib.hid (fun W (h : GotL W xs A) => spread_any t n c A xs ht hx hn hm W h.1 (fun hp => h.2 (by rw [hn]; exact hp)))
    have H4 := Lib.hid (fun W (h : GotL W xs A) => splitl_any t n c A xs ht hx hn hm W h.1 (fun hp => h.2 (by rw [hn]; exact hp)))
    unfold ListPost at H3
    unfold SplitPost at H4
    by_cases hok : wholeE xs = 0 ∧ total xs ≠ 0
    · obtain ⟨he, h0⟩ := hok
      have hpv : partsV t xs = partsN t xs := by simp [partsV, he]
      have hse : spreadE t xs = 0 := by simp [spreadE, he, h0]
      have hst := spreadV_total (t := t) he h0
      have HA := Lib.hid (fun i => spreadV_at (t := t) he h0 i)
      have hlm : (partsN t xs).length = n := by simp [partsN, hn]
      rw [hpv, he] at H4
      rw [hse] at H3
      have hll : (spreadV t xs).length = n := hst.2.trans hn
      have HLT := Lib.hid (fun i => leftI_le t (spreadV t xs) i)
      have HP := Lib.hid (fun i (h : i < n) => leftI_part (t := t) (l := spreadV t xs) (by rw [hst.1]; exact Nat.le_refl _) (by rw [hll]; exact h))
      have HE : Hid (leftI t (spreadV t xs) n = 0) := Lib.hid (by
        have := leftI_all (t := t) (l := spreadV t xs) (by rw [hst.1]; exact Nat.le_refl _)
        rw [hll] at this
        rw [this, hst.1]; omega)
      have HN := Lib.hid hn
      have HL := Lib.hid hll
      have HM := Lib.hid hlm
      generalize spreadV t xs = l at *
      generalize partsN t xs = m at *
      generalize leftV t xs = lf at *
      clear hU hx hn hpv hse hst hlm hll he h0
      go_enter Try.func12, Try.ntmps12
      go_wp2_with fail
      refine (awake04_any _).mono ?_
      rintro e w1 ⟨rfl, hb1⟩
      have G1 := Lib.hid (HG.out.stay hb1)
      go_wp2_with fail
      refine (H3.out _ G1.out).mono ?_
      rintro e w3 ⟨v, rfl, hown, hb3⟩
      obtain ⟨A3, c3, rfl, hg3, hl3⟩ := hown.got
      rw [HL.out]
      have G3 := Lib.hid (G1.out.stay hb3)
      have L3 := Lib.hid hg3
      have hB3 := Below.then hb1 hb3
      clear hb1 hb3 G1 HG hown hg3 hl3 H3
      go_wp2_with fail
      refine (H4.out _ G3.out).mono ?_
      rintro e w4 ⟨v, rfl, hown, hb4⟩
      obtain ⟨A4, c4, rfl, hg4, hl4⟩ := hown.got
      rw [HM.out]
      have G4 := Lib.hid (G3.out.stay hb4)
      have L4 := Lib.hid (L3.out.stay hb4)
      have M4 := Lib.hid hg4
      have hB4 := Below.then hB3 hb4
      clear hB3 hb4 G3 hown hg4 hl4 H4 L3
      go_wp2_with fail
      go_loopw [55, 10] (fun x y wr => ∃ i : Nat, x = .int .i64 i ∧ y = .int .u64 ((leftI t l i : Nat) : Int) ∧ i ≤ n ∧ Below w4.heap.size w4 wr) (fun x _ _ => n - (intOf x).toNat)
      case atStart => exact ⟨0, rfl, rfl, by omega, Below.refl _ _⟩
      case round =>
        obtain ⟨i, rfl, rfl, hi, hB⟩ := hrel
        by_cases hlt : i < n
        · obtain ⟨b1, o1, rfl, g1, c1⟩ := G4.out.1 (by rw [HN.out]; omega)
          obtain ⟨b2, o2, rfl, g2, c2⟩ := L4.out.1 (by rw [HL.out]; omega)
          obtain ⟨b3, o3, rfl, g3, c3'⟩ := M4.out.1 (by rw [HM.out]; omega)
          have k1 := (hB.cell (p := ⟨b1, o1 + i, none⟩) g1).trans (c1 i (by rw [HN.out]; exact hlt))
          have k2 := (hB.cell (p := ⟨b2, o2 + i, none⟩) g2).trans (c2 i (by rw [HL.out]; exact hlt))
          have k3 := (hB.cell (p := ⟨b3, o3 + i, none⟩) g3).trans (c3' i (by rw [HM.out]; exact hlt))
          have hp := HP.out i hlt
          have hlt' := HLT.out i
          have ha := HA.out i
          have HS1 : Hid (leftI t l (i + 1) = leftI t l i - l.getD i 0) := Lib.hid rfl
          generalize leftI t l i = lft at *
          generalize xs.getD i 0 = x at *
          generalize l.getD i 0 = p at *
          generalize m.getD i 0 = q at *
          have z1 : (0 : Int) ≤ (i : Int) := by omega
          have z2 : (i : Int) < (n : Int) := by omega
          have E1 : IntKind.u64.wrap ((lft : Int) - (p : Int)) = ((lft - p : Nat) : Int) := by rw [show (lft : Int) - (p : Int) = ((lft - p : Nat) : Int) by omega]; exact Bits.wrapN _ (by omega)
          have hle2 : ¬ (lft : Int) < (p : Int) := by omega
          have HA2 := Lib.hid ha
          clear c1 c2 c3' HA HP HLT HE G4 L4 M4 ha
          rcases HA2.out with ⟨rfl, rfl, rfl⟩ | ⟨hx0, hpq | hpq⟩
          · clear HA2
            go_wp2_with fail
            exact ⟨⟨i + 1, by go_num, by rw [HS1.out] <;> simp, by omega, hB⟩, by simp [intOf]; omega⟩
          · have e1 : ((x : Int) == 0) = false := beq_eq_false_iff_ne.2 (by omega)
            subst hpq
            clear HA2
            go_wp2_with fail
            exact ⟨⟨i + 1, by go_num, by rw [HS1.out], by omega, hB⟩, by simp [intOf]; omega⟩
          · have e1 : ((x : Int) == 0) = false := beq_eq_false_iff_ne.2 (by omega)
            have e2 : ((p : Int) != (q : Int)) = true := bne_iff_ne.2 (by omega)
            have e3 : ((p : Int) != (q : Int) + 1) = false := by rw [bne_eq_false_iff_eq]; omega
            have e4 : IntKind.u64.wrap ((q : Int) + 1) = (q : Int) + 1 := by rw [show (q : Int) + 1 = ((q + 1 : Nat) : Int) by omega]; exact Bits.wrapN _ (by omega)
            clear hpq HA2
            go_wp2_with fail
            exact ⟨⟨i + 1, by go_num, by rw [HS1.out], by omega, hB⟩, by simp [intOf]; omega⟩
        · obtain rfl : i = n := by omega
          rw [HE.out]
          clear HA HP HLT HE
          go_wp2_with fail
          go_ret
          exact ⟨rfl, Below.then hB4 hB⟩
    · have hsv : spreadV t xs = [] := by
        unfold spreadV
        rcases wholeE_cases xs with he | he
        · rw [if_pos he]
          by_cases h0 : total xs = 0
          · rw [if_pos h0]
          · exact absurd ⟨he, h0⟩ hok
        · rw [he]; rfl
      have hse : (spreadE t xs != 0) = true := by
        unfold spreadE
        rcases wholeE_cases xs with he | he
        · rw [if_pos he]
          by_cases h0 : total xs = 0
          · rw [if_pos h0]; rfl
          · exact absurd ⟨he, h0⟩ hok
        · rw [he]; rfl
      rw [hsv] at H3
      generalize spreadE t xs = se at *
      generalize wholeE xs = we at *
      generalize leftV t xs = lf at *
      generalize partsV t xs = pv at *
      clear hU hx hn hsv hok
      go_enter Try.func12, Try.ntmps12
      go_wp2_with fail
      refine (awake04_any _).mono ?_
      rintro e w1 ⟨rfl, hb1⟩
      have G1 := Lib.hid (HG.out.stay hb1)
      go_wp2_with fail
      refine (H3.out _ G1.out).mono ?_
      rintro e w3 ⟨v, rfl, hown, hb3⟩
      obtain ⟨A3, c3, rfl, hg3, hl3⟩ := hown.got
      have G3 := Lib.hid (G1.out.stay hb3)
      have hB3 := Below.then hb1 hb3
      clear hb1 hb3 G1 HG hown hg3 hl3 H3
      go_wp2_with fail
      refine (H4.out _ G3.out).mono ?_
      rintro e w4 ⟨v, rfl, hown, hb4⟩
      have hB4 := Below.then hB3 hb4
      clear hB3 hb4 G3 hown H4
      go_wp2_with fail
      go_ret
      exact ⟨rfl, hB4⟩
end Go.Proofs.Ytncobbhhjkdllaa
