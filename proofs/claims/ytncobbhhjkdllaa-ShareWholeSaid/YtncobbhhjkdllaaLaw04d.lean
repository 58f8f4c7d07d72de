/-
  The walk of ShareWhole: it answers true whatever the arguments.
-/
import Derived.Test.YtncobbhhjkdllaaLaw04
import Derived.Test.YtncobbhhjkdllaaLaw04c
namespace Go.Proofs.Ytncobbhhjkdllaa
open Go.RowKit
set_option linter.unusedVariables false

set_option maxHeartbeats 4000000 in
set_option maxRecDepth 100000 in
theorem shareWhole_any (t n c : Nat) (A : Option Addr) (xs : List Nat) (ht : t < 18446744073709551616) (hn : xs.length = n) (hx : ∀ i, xs.getD i 0 < 18446744073709551616) (hm : n ≤ 9223372036854775807) (w : World) (hU : U64s w A xs) :
    Calls Try.prog 11 #[.int .u64 t, .slice A n c] w fun e w' => e = .returned (.bool true) ∧ Below w.heap.size w w' := by
  by_cases hbig : (100 : Int) < (n : Int)
  · clear hU hx hn
    go_enter Try.func11, Try.ntmps11
    go_wp2_with fail
    refine (awake04_any _).mono ?_
    rintro e w1 ⟨rfl, hb1⟩
    go_wp2_with fail
    go_ret
    exact ⟨rfl, hb1⟩
  · have HG := Lib.hid (u64s_got hU)
    have H3 := Lib.hid (fun W (h : GotL W xs A) => splitl_any t n c A xs ht hx hn hm W h.1 (fun hp => h.2 (by rw [hn]; exact hp)))
    unfold SplitPost at H3
    rcases wholeE_cases xs with he | he
    · have hpv : partsV t xs = partsN t xs := by simp [partsV, he]
      have hlv : leftV t xs = t - total (partsN t xs) := by simp [leftV, he]
      have hln : (partsN t xs).length = n := by simp [partsN, hn]
      have hle := partsN_le t xs
      have HLT := Lib.hid (fun i => leftI_le t (partsN t xs) i)
      have HP := Lib.hid (fun i (h : i < n) => leftI_part (t := t) (l := partsN t xs) hle (by rw [hln]; exact h))
      have HZ : Hid (∀ i, xs.getD i 0 = 0 → (partsN t xs).getD i 0 = 0) := Lib.hid fun i h => by rw [partsN_at, h, partN_zero]
      have HM : Hid (∀ i k, xs.getD i 0 < xs.getD k 0 → (partsN t xs).getD i 0 ≤ (partsN t xs).getD k 0) := Lib.hid fun i k h => by rw [partsN_at, partsN_at]; exact partN_mono _ _ (Nat.le_of_lt h)
      have HQ := Lib.hid (fun i => posI_le xs i)
      have HEnd : Hid (leftI t (partsN t xs) n = leftV t xs ∧ ((posI xs n = 0 ∧ leftV t xs = t) ∨ (0 < posI xs n ∧ leftV t xs < posI xs n))) := Lib.hid ⟨by rw [hlv, ← hln]; exact leftI_all hle, by
        rw [hlv, ← hn]
        rcases Nat.eq_zero_or_pos (total xs) with h | h
        · exact .inl ⟨posI_none h _, rest_none h⟩
        · exact .inr ⟨posI_pos h, rest_some h⟩⟩
      rw [hpv, he] at H3
      have HN := Lib.hid hn
      have HL := Lib.hid hln
      generalize leftV t xs = lf at *
      generalize partsN t xs = l at *
      clear hU hx hn hpv hlv hln hle he
      go_enter Try.func11, Try.ntmps11
      go_wp2_with fail
      refine (awake04_any _).mono ?_
      rintro e w1 ⟨rfl, hb1⟩
      have G1 := Lib.hid (HG.out.stay hb1)
      go_wp2_with fail
      refine (H3.out _ G1.out).mono ?_
      rintro e w3 ⟨v, rfl, hown, hb3⟩
      obtain ⟨A3, c3, rfl, hg3, hl3⟩ := hown.got
      rw [HL.out]
      have G3 := Lib.hid (G1.out.stay hb3)
      have L3 := Lib.hid hg3
      have hB3 := Below.then hb1 hb3
      clear hb1 hb3 G1 HG hown hg3 hl3 H3
      go_wp2_with fail
      go_loopw [43, 8, 9] (fun x y z wr => ∃ i : Nat, x = .int .i64 i ∧ y = .int .u64 ((leftI t l i : Nat) : Int) ∧ z = .int .i64 ((posI xs i : Nat) : Int) ∧ i ≤ n ∧ Below w3.heap.size w3 wr) (fun x _ _ _ => n - (intOf x).toNat)
      case atStart => exact ⟨0, rfl, rfl, rfl, by omega, Below.refl _ _⟩
      case round =>
        obtain ⟨i, rfl, rfl, rfl, hi, hB⟩ := hrel
        by_cases hlt : i < n
        · obtain ⟨b1, o1, rfl, g1, c1⟩ := G3.out.1 (by rw [HN.out]; omega)
          obtain ⟨b2, o2, rfl, g2, c2⟩ := L3.out.1 (by rw [HL.out]; omega)
          have k1 := (hB.cell (p := ⟨b1, o1 + i, none⟩) g1).trans (c1 i (by rw [HN.out]; exact hlt))
          have k2 := (hB.cell (p := ⟨b2, o2 + i, none⟩) g2).trans (c2 i (by rw [HL.out]; exact hlt))
          have K1 := Lib.hid c1
          have K2 := Lib.hid c2
          have hp := HP.out i hlt
          have hlt' := HLT.out i
          have hq := HQ.out i
          have hz := HZ.out i
          have HMi := Lib.hid (HM.out i)
          have HS1 : Hid (leftI t l (i + 1) = leftI t l i - l.getD i 0) := Lib.hid rfl
          have HS2 : Hid (posI xs (i + 1) = posI xs i + if 0 < xs.getD i 0 then 1 else 0) := Lib.hid rfl
          generalize leftI t l i = lft at *
          generalize posI xs i = q at *
          generalize hxe : xs.getD i 0 = x at *
          generalize hle : l.getD i 0 = p at *
          have z1 : (0 : Int) ≤ (i : Int) := by omega
          have z2 : (i : Int) < (n : Int) := by omega
          have E1 : IntKind.u64.wrap ((lft : Int) - (p : Int)) = ((lft - p : Nat) : Int) := by rw [show (lft : Int) - (p : Int) = ((lft - p : Nat) : Int) by omega]; exact Bits.wrapN _ (by omega)
          have E2 : IntKind.i64.wrap ((q : Int) + 1) = ((q + 1 : Nat) : Int) := by rw [show (q : Int) + 1 = ((q + 1 : Nat) : Int) by omega]; exact IntWalk.i64_in _ (by omega)
          have hle2 : ¬ (lft : Int) < (p : Int) := by omega
          clear c1 c2
          have hxp : (x = 0 ∧ p = 0) ∨ 0 < x := by
            rcases Nat.eq_zero_or_pos x with h | h
            · exact .inl ⟨h, hz h⟩
            · exact .inr h
          clear hz
          rcases hxp with ⟨rfl, rfl⟩ | hx0
          all_goals
            first
              | rw [if_neg (by omega)] at HS2
              | rw [if_pos hx0] at HS2
            go_wp2_with fail
            go_loopw [74] (fun x wr' => ∃ k : Nat, x = .int .i64 k ∧ k ≤ n ∧ Below w3.heap.size w3 wr') (fun x _ => n - (intOf x).toNat)
            case atStart => exact ⟨0, rfl, by omega, hB⟩
            case round =>
              clear k1 k2 hB
              obtain ⟨k, rfl, hk, hB⟩ := hrel
              by_cases hkl : k < n
              · have m1 := (hB.cell (p := ⟨b1, o1 + k, none⟩) g1).trans (K1.out k (by rw [HN.out]; exact hkl))
                have k1 := (hB.cell (p := ⟨b1, o1 + i, none⟩) g1).trans (K1.out i (by rw [HN.out]; exact hlt))
                rw [hxe] at k1
                have m2 := (hB.cell (p := ⟨b2, o2 + k, none⟩) g2).trans (K2.out k (by rw [HL.out]; exact hkl))
                have hM := HMi.out k
                generalize xs.getD k 0 = y at *
                generalize l.getD k 0 = m at *
                have y1 : (0 : Int) ≤ (k : Int) := by omega
                have y2 : (k : Int) < (n : Int) := by omega
                rcases Nat.lt_or_ge (xs.getD i 0) y with h | h
                all_goals
                  rw [hxe] at h
                  try have hM2 := hM (by rw [hxe]; exact h)
                  try have hM3 := Int.ofNat_le.2 hM2
                  try have h3 := Int.ofNat_lt.2 h
                  try have h5 : (0 : Int) < (y : Int) := by omega
                  try have h6 := decide_eq_true h3
                  try have h7 := decide_eq_true h5
                  try have h8 := decide_eq_false (Nat.not_lt.2 h)
                  go_wp2_with fail
                  go_quiet (fail)
                  go_wp2_with fail
                  exact ⟨⟨k + 1, by go_num, by omega, (by (repeat (first | exact Below.refl _ _ | assumption | (refine Below.allocT ?_ _) | refine Below.drew ?_ | refine below_drewN ?_ _ | (refine Below.then ?_ (by assumption)) | (refine Below.setRow ?_ ?_ _; rotate_left; (focus (first | exact Nat.lt_succ_self _ | ((repeat rw [World.size_alloc]); omega) | (simp; done) | (simp; omega) | omega))) | (refine Below.setCell ?_ ?_ _; rotate_left; (focus (first | exact Nat.lt_succ_self _ | ((repeat rw [World.size_alloc]); omega) | (simp; done) | (simp; omega) | omega))) | (refine Below.then' ?_ (by assumption) ?_; rotate_left; (focus (first | exact Nat.lt_succ_self _ | ((repeat rw [World.size_alloc]); omega) | (simp; done) | (simp; omega) | omega))) | fail)); (first | done | fail))⟩, by simp [intOf]; omega⟩
              · go_wp2_with fail
                exact ⟨⟨i + 1, by go_num, by rw [HS1.out] <;> simp, by rw [HS2.out] <;> simp, by omega, hB⟩, by simp [intOf]; omega⟩
        · obtain rfl : i = n := by omega
          have h1 := HEnd.out.1
          have h2 := HEnd.out.2
          have hq := HQ.out i
          rw [h1]
          generalize posI xs i = q at *
          have E3 : IntKind.u64.wrap ((q : Int)) = ((q : Nat) : Int) := Bits.wrapN _ (by omega)
          clear HP HZ HM HQ HLT HEnd
          rcases h2 with ⟨rfl, rfl⟩ | ⟨h2, h3⟩
          all_goals
            go_wp2_with fail
            go_ret
            exact ⟨by simp, Below.then hB3 hB⟩
    · have hpv : partsV t xs = [] := by simp [partsV, he]
      have hlv : leftV t xs = 0 := by simp [leftV, he]
      rw [hpv, hlv, he] at H3
      clear hU hx hn hpv hlv he
      go_enter Try.func11, Try.ntmps11
      go_wp2_with fail
      refine (awake04_any _).mono ?_
      rintro e w1 ⟨rfl, hb1⟩
      have G1 := Lib.hid (HG.out.stay hb1)
      go_wp2_with fail
      refine (H3.out _ G1.out).mono ?_
      rintro e w3 ⟨v, rfl, hown, hb3⟩
      obtain ⟨A3, c3, rfl, hg3, hl3⟩ := hown.got
      go_wp2_with fail
      go_ret
      exact ⟨rfl, Below.then hb1 hb3⟩
end Go.Proofs.Ytncobbhhjkdllaa
