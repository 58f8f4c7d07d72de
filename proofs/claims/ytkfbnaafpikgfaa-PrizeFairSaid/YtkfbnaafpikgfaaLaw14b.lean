/-
  Layer 14: prizes and what is left are together the budget; the longer streak gets no less.
-/
import Derived.Test.YtkfbnaafpikgfaaPrize3
import Derived.Test.YtkfbnaafpikgfaaLaw04c
namespace Go.Proofs.Ytkfbnaafpikgfaa
open Go.RowKit
set_option linter.unusedVariables false

theorem stk_mono {P : Par} {s r : St} (h : s.streak ≤ r.streak) : stkZ P s ≤ stkZ P r := by unfold stkZ; omega
theorem weight_mono {P : Par} (hr : rightB P = true) {s r : St} (he : s.eff = r.eff) (h : s.streak ≤ r.streak) : weightN P s ≤ weightN P r := by
  unfold weightN
  rw [he]
  split
  · omega
  · have h1 := stk_mono (P := P) h
    have h2 := others_facts (right_facts hr).2.2.1
    have h3 : P.boost * stkZ P s ≤ P.boost * stkZ P r := Int.mul_le_mul_of_nonneg_left h1 (by omega)
    exact Nat.mul_le_mul_left _ (by omega)
theorem weight_none {P : Par} {s : St} (h : s.eff = 0) : weightN P s = 0 := by
  unfold weightN
  rw [h]
  split <;> simp
theorem map_at {P : Par} {xs : List St} {i : Nat} {s : St} (h : xs[i]? = some s) : (xs.map (weightN P)).getD i 0 = weightN P s := by
  rw [List.getD_eq_getElem?_getD, List.getElem?_map, h]; rfl
set_option maxRecDepth 100000 in
set_option maxHeartbeats 4000000 in
theorem prizeFair_any (P : Par) (t : Nat) (A : Option Addr) (n c : Nat) (xs : List St) (ht : t < 18446744073709551616) (hn : xs.length = n) (hok : ∀ x ∈ xs, x.Ok) (hm : n ≤ 9223372036854775807) (w : World) (hU : SliceOf 4 St.cells w A xs) :
    Calls Try.prog 7 #[.agg P.cells, .int .u64 t, .slice A n c] w fun e w' => e = .returned (.bool true) ∧ Below w.heap.size w w' := by
  have r0 : row (w.alloc (.cells P.cells 24)) w.heap.size = some P.cells := row_at _ _ _ _ rfl
  have hB0 : Below w.heap.size w (w.alloc (.cells P.cells 24)) := (by (repeat (first | exact Below.refl _ _ | assumption | (refine Below.allocT ?_ _) | refine Below.drew ?_ | refine below_drewN ?_ _ | (refine Below.then ?_ (by assumption)) | (refine Below.setRow ?_ ?_ _; rotate_left; (focus (first | exact Nat.lt_succ_self _ | ((repeat rw [World.size_alloc]); omega) | (simp; done) | (simp; omega) | omega))) | (refine Below.setCell ?_ ?_ _; rotate_left; (focus (first | exact Nat.lt_succ_self _ | ((repeat rw [World.size_alloc]); omega) | (simp; done) | (simp; omega) | omega))) | (refine Below.then' ?_ (by assumption) ?_; rotate_left; (focus (first | exact Nat.lt_succ_self _ | ((repeat rw [World.size_alloc]); omega) | (simp; done) | (simp; omega) | omega))) | fail)); (first | done | fail))
  have HPz := Lib.hid (fun W (h : SliceOf 4 St.cells W A xs) => prizes_any P t A n c xs ht hn W h)
  unfold PrizesPost at HPz
  have HU := Lib.hid hU
  by_cases hE : prizesE P xs = 0
  · have hr : rightB P = true := by
      unfold prizesE at hE
      cases h : rightB P
      · rw [h] at hE; simp at hE
      · rfl
    have hL : prizesL P t xs = partsN t (xs.map (weightN P)) := by simp [prizesL, hE]
    have hR : prizesR P t xs = t - total (partsN t (xs.map (weightN P))) := by simp [prizesR, hE]
    have hll : (partsN t (xs.map (weightN P))).length = n := by simp [partsN, hn]
    have hle := partsN_le t (xs.map (weightN P))
    have HLT := Lib.hid (fun i => leftI_le t (partsN t (xs.map (weightN P))) i)
    have HLe := Lib.hid (fun i (h : i < n) => leftI_part (t := t) (l := partsN t (xs.map (weightN P))) hle (by rw [hll]; exact h))
    have HEnd : Hid (leftI t (partsN t (xs.map (weightN P))) n = prizesR P t xs) := Lib.hid (by rw [hR, ← hll]; exact leftI_all hle)
    have HZ : Hid (∀ i s, xs[i]? = some s → s.eff = 0 → (partsN t (xs.map (weightN P))).getD i 0 = 0) := Lib.hid fun i s h h0 => by
      rw [partsN_at, map_at h, weight_none h0, partN_zero]
    have HMo : Hid (∀ i s k r, xs[i]? = some s → xs[k]? = some r → s.eff = r.eff → s.streak ≤ r.streak → (partsN t (xs.map (weightN P))).getD i 0 ≤ (partsN t (xs.map (weightN P))).getD k 0) := Lib.hid fun i s k r h1 h2 h3 h4 => by
      rw [partsN_at, partsN_at, map_at h1, map_at h2]
      exact partN_mono _ _ (weight_mono hr h3 h4)
    rw [hE, hL] at HPz
    generalize prizesR P t xs = rest at *
    generalize hlst : partsN t (xs.map (weightN P)) = l at *
    have HN := Lib.hid hn
    have HL := Lib.hid hll
    clear hU hn hE hr hL hR hle hlst hll hok
    go_enter Try.func7, Try.ntmps7
    go_wp2_with fail
    generalize w.alloc (.cells P.cells 24) = w0 at *
    refine (awake14_any _).mono ?_
    rintro e w1 ⟨rfl, hb1⟩
    have r1 := (row_below hb1 (row_lt r0)).trans r0
    have hB1 := Below.then hB0 hb1
    clear r0 hB0 hb1
    go_wp2_with fail
    refine (HPz.out _ (HU.out.below hB1 (Nat.le_refl _))).mono ?_
    rintro e w4 ⟨A3, c3, rfl, hO, hb4⟩
    rw [HL.out]
    have hO' := hO
    rw [HL.out] at hO
    obtain ⟨A4, c4, e4, hU4, h4⟩ := hO'.form
    clear h4
    rw [HL.out] at e4
    simp only [Value.slice.injEq, true_and] at e4
    obtain ⟨rfl, rfl⟩ := e4
    have L4 := Lib.hid hU4
    have B4 := Lib.hid (Below.then hB1 hb4)
    have U4 := Lib.hid (HU.out.below B4.out (Nat.le_refl _))
    clear hO hO' hU4 hb4 hB1 r1 HPz
    go_wp2_with fail
    go_loopw [42, 10] (fun x y wr => ∃ i : Nat, x = .int .i64 i ∧ y = .int .u64 ((leftI t l i : Nat) : Int) ∧ i ≤ n ∧ Below w4.heap.size w4 wr) (fun x _ _ => n - (intOf x).toNat)
    case atStart => exact ⟨0, rfl, rfl, by omega, Below.refl _ _⟩
    case round =>
      obtain ⟨i, rfl, rfl, hi, hB⟩ := hrel
      by_cases hlt : i < n
      · obtain ⟨b1, o1, rfl, g1, cc1⟩ := U4.out (by rw [HN.out]; omega)
        obtain ⟨b2, o2, rfl, g2, cc2⟩ := L4.out (by rw [HL.out]; omega)
        obtain ⟨s, hs⟩ : ∃ s, xs[i]? = some s := ⟨_, List.getElem?_eq_getElem (by rw [HN.out]; omega)⟩
        have ks := (st_range (range_below (cc1 i s hs) hB g1)).2.1
        have k2 := (hB.cell (p := ⟨b2, o2 + i, none⟩) g2).trans (cc2 i (by rw [HL.out]; exact hlt))
        have K1 := Lib.hid cc1
        have K2 := Lib.hid cc2
        have hp := HLe.out i hlt
        have hlt' := HLT.out i
        have hz := HZ.out i s hs
        have HMi := Lib.hid (fun k r h => HMo.out i s k r hs h)
        have HSx := Lib.hid hs
        have HS1 : Hid (leftI t l (i + 1) = leftI t l i - l.getD i 0) := Lib.hid rfl
        generalize leftI t l i = lft at *
        generalize hple : l.getD i 0 = p at *
        have z1 : (0 : Int) ≤ (i : Int) := by omega
        have z2 : (i : Int) < (n : Int) := by omega
        have E1 : IntKind.u64.wrap ((lft : Int) - (p : Int)) = ((lft - p : Nat) : Int) := by rw [show (lft : Int) - (p : Int) = ((lft - p : Nat) : Int) by omega]; exact Bits.wrapN _ (by omega)
        have hle2 : ¬ (lft : Int) < (p : Int) := by omega
        have HPl := Lib.hid hple
        clear cc1 cc2 hs hple
        have hxp : (s.eff = 0 ∧ p = 0) ∨ 0 < s.eff := by
          rcases Nat.eq_zero_or_pos s.eff with h | h
          · exact .inl ⟨h, hz h⟩
          · exact .inr h
        clear hz
        have hdec : ((((s.eff : Nat) : Int) == 0) = true ∧ ((p : Int) != 0) = false) ∨ (((s.eff : Nat) : Int) == 0) = false := by
          rcases hxp with ⟨h1, h2⟩ | h
          · left; rw [h1, h2]; exact ⟨rfl, rfl⟩
          · right; exact beq_eq_false_iff_ne.2 (by omega)
        clear hxp
        rcases hdec with ⟨d1, d2⟩ | d1
        all_goals
          go_wp2_with fail
          go_loopw [67] (fun x wr' => ∃ k : Nat, x = .int .i64 k ∧ k ≤ n ∧ Below w4.heap.size w4 wr') (fun x _ => n - (intOf x).toNat)
          case atStart => exact ⟨0, rfl, by omega, hB⟩
          case round =>
            clear ks k2 hB
            obtain ⟨k, rfl, hk, hB⟩ := hrel
            by_cases hkl : k < n
            · obtain ⟨r, hr⟩ : ∃ r, xs[k]? = some r := ⟨_, List.getElem?_eq_getElem (by rw [HN.out]; omega)⟩
              have m1 := st_range (range_below (K1.out k r hr) hB g1)
              have n1 := st_range (range_below (K1.out i s HSx.out) hB g1)
              have me := m1.2.1
              have ms := m1.2.2.2
              have ne := n1.2.1
              have ns := n1.2.2.2
              have m2 := (hB.cell (p := ⟨b2, o2 + k, none⟩) g2).trans (K2.out k (by rw [HL.out]; exact hkl))
              have hM := HMi.out k r hr
              first | rw [HPl.out] at hM | skip
              generalize l.getD k 0 = m at *
              have y1 : (0 : Int) ≤ (k : Int) := by omega
              have y2 : (k : Int) < (n : Int) := by omega
              clear m1 n1 hr
              by_cases hee : s.eff = r.eff
              · have q1 : (((r.eff : Nat) : Int) == ((s.eff : Nat) : Int)) = true := by rw [beq_iff_eq]; omega
                by_cases hss : s.streak < r.streak
                · have hpm := hM hee (by omega)
                  have q2 := decide_eq_true hss
                  have q3 : decide (m < p) = false := decide_eq_false (by omega)
                  have q4 : ¬ (m : Int) < (p : Int) := by omega
                  clear hM hee
                  go_wp2_with fail
                  go_quiet (fail)
                  go_wp2_with fail
                  exact ⟨⟨k + 1, by go_num, by omega, (by (repeat (first | exact Below.refl _ _ | assumption | (refine Below.allocT ?_ _) | refine Below.drew ?_ | refine below_drewN ?_ _ | (refine Below.then ?_ (by assumption)) | (refine Below.setRow ?_ ?_ _; rotate_left; (focus (first | exact Nat.lt_succ_self _ | ((repeat rw [World.size_alloc]); omega) | (simp; done) | (simp; omega) | omega))) | (refine Below.setCell ?_ ?_ _; rotate_left; (focus (first | exact Nat.lt_succ_self _ | ((repeat rw [World.size_alloc]); omega) | (simp; done) | (simp; omega) | omega))) | (refine Below.then' ?_ (by assumption) ?_; rotate_left; (focus (first | exact Nat.lt_succ_self _ | ((repeat rw [World.size_alloc]); omega) | (simp; done) | (simp; omega) | omega))) | fail)); (first | done | fail))⟩, by simp [intOf]; omega⟩
                · have q2 : decide (s.streak < r.streak) = false := decide_eq_false hss
                  clear hM hee hss
                  go_wp2_with fail
                  go_quiet (fail)
                  go_wp2_with fail
                  exact ⟨⟨k + 1, by go_num, by omega, (by (repeat (first | exact Below.refl _ _ | assumption | (refine Below.allocT ?_ _) | refine Below.drew ?_ | refine below_drewN ?_ _ | (refine Below.then ?_ (by assumption)) | (refine Below.setRow ?_ ?_ _; rotate_left; (focus (first | exact Nat.lt_succ_self _ | ((repeat rw [World.size_alloc]); omega) | (simp; done) | (simp; omega) | omega))) | (refine Below.setCell ?_ ?_ _; rotate_left; (focus (first | exact Nat.lt_succ_self _ | ((repeat rw [World.size_alloc]); omega) | (simp; done) | (simp; omega) | omega))) | (refine Below.then' ?_ (by assumption) ?_; rotate_left; (focus (first | exact Nat.lt_succ_self _ | ((repeat rw [World.size_alloc]); omega) | (simp; done) | (simp; omega) | omega))) | fail)); (first | done | fail))⟩, by simp [intOf]; omega⟩
              · have q1 : (((r.eff : Nat) : Int) == ((s.eff : Nat) : Int)) = false := beq_eq_false_iff_ne.2 (by omega)
                clear hM hee
                go_wp2_with fail
                go_quiet (fail)
                go_wp2_with fail
                exact ⟨⟨k + 1, by go_num, by omega, (by (repeat (first | exact Below.refl _ _ | assumption | (refine Below.allocT ?_ _) | refine Below.drew ?_ | refine below_drewN ?_ _ | (refine Below.then ?_ (by assumption)) | (refine Below.setRow ?_ ?_ _; rotate_left; (focus (first | exact Nat.lt_succ_self _ | ((repeat rw [World.size_alloc]); omega) | (simp; done) | (simp; omega) | omega))) | (refine Below.setCell ?_ ?_ _; rotate_left; (focus (first | exact Nat.lt_succ_self _ | ((repeat rw [World.size_alloc]); omega) | (simp; done) | (simp; omega) | omega))) | (refine Below.then' ?_ (by assumption) ?_; rotate_left; (focus (first | exact Nat.lt_succ_self _ | ((repeat rw [World.size_alloc]); omega) | (simp; done) | (simp; omega) | omega))) | fail)); (first | done | fail))⟩, by simp [intOf]; omega⟩
            · go_wp2_with fail
              exact ⟨⟨i + 1, by go_num, by rw [HS1.out], by omega, hB⟩, by simp [intOf]; omega⟩
      · obtain rfl : n = i := by omega
        rw [HEnd.out]
        clear HLe HZ HMo HLT HEnd HU U4 L4
        go_wp2_with fail
        go_ret
        exact ⟨rfl, Below.then B4.out hB⟩
  · have hL : prizesL P t xs = [] := by simp [prizesL, hE]
    have hR : prizesR P t xs = 0 := by simp [prizesR, hE]
    have e1 : (prizesE P xs != 0) = true := bne_iff_ne.2 hE
    rw [hL, hR] at HPz
    generalize prizesE P xs = ec at *
    clear hU hn hE hL hR hok
    go_enter Try.func7, Try.ntmps7
    go_wp2_with fail
    generalize w.alloc (.cells P.cells 24) = w0 at *
    refine (awake14_any _).mono ?_
    rintro e w1 ⟨rfl, hb1⟩
    have r1 := (row_below hb1 (row_lt r0)).trans r0
    have hB1 := Below.then hB0 hb1
    clear r0 hB0 hb1
    go_wp2_with fail
    refine (HPz.out _ (HU.out.below hB1 (Nat.le_refl _))).mono ?_
    rintro e w4 ⟨A3, c3, rfl, hO, hb4⟩
    have B4 := Lib.hid (Below.then hB1 hb4)
    clear hO hb4 hB1 r1
    go_wp2_with fail
    go_ret
    exact ⟨rfl, B4.out⟩
end Go.Proofs.Ytkfbnaafpikgfaa
