/-
  The walks of MoneyStops and MoneyTotals.
-/
import Derived.Test.YtfdjmpaikbaepaaLaw01
import Derived.Test.YtfdjmpaikbaepaaRef01g
namespace Go.Proofs.Ytfdjmpaikbaepaa
open Go.RowKit
set_option linter.unusedVariables false

set_option maxHeartbeats 1000000 in
set_option maxRecDepth 100000 in
theorem moneyStops_any (a b m : Nat) (ha : a < 18446744073709551616) (hb : b < 18446744073709551616) (hm : m < 18446744073709551616) (w : World) :
    Calls Try.prog 6 #[.int .u64 a, .int .u64 b, .int .u64 m] w fun e w' => e = .returned (.bool true) ∧ Below w.heap.size w w' := by
  have la := len_u64 ha
  have lb := len_u64 hb
  have lm := len_u64 hm
  have ls := len_add a b
  have lt := len_mono (Nat.sub_le a b)
  have HR := Lib.hid (fun W => rise_any a b m ha hb hm W)
  have HF := Lib.hid (fun W => fall_any a b ha hb W)
  go_enter Try.func6, Try.ntmps6
  go_wp2_with fail
  refine (awake01_any _).mono ?_
  rintro e w1 ⟨rfl, rfl⟩
  go_wp2_with fail
  refine (ofn_any a ha _).mono ?_
  rintro e w1 ⟨A1, x1, rfl, hN1, hb1, _⟩
  go_wp2_with fail
  refine (ofn_any b hb _).mono ?_
  rintro e w2 ⟨A2, x2, rfl, hN2, hb2, _⟩
  go_wp2_with fail
  refine (add_any A1 A2 _ x1 _ x2 a b _ (hN1.stay hb2) hN2 (by omega) (by omega)).mono ?_
  rintro e w3 ⟨A3, x3, rfl, hN3, hb3, _⟩
  have B3 : Below w.heap.size w w3 := (by repeat (first | exact Below.refl _ _ | assumption | (refine Below.allocT ?_ _) | refine Below.drew ?_ | refine below_drewN ?_ _ | (refine Below.then ?_ (by assumption)) | (refine Below.setRow ?_ ?_ _; rotate_left; (focus (first | exact Nat.lt_succ_self _ | (simp only [World.size_alloc]; omega) | (simp; done) | (simp; omega) | omega))) | (refine Below.setCell ?_ ?_ _; rotate_left; (focus (first | exact Nat.lt_succ_self _ | (simp only [World.size_alloc]; omega) | (simp; done) | (simp; omega) | omega))) | (refine Below.then' ?_ (by assumption) ?_; rotate_left; (focus (first | exact Nat.lt_succ_self _ | (simp only [World.size_alloc]; omega) | (simp; done) | (simp; omega) | omega))) | fail))
  clear hb1 hb2 hb3 hN1 hN2
  have M4 := hN3.alloc (.cells #[.slice A3 (dg (a + b)).length x3] 43)
  have R4 : row (w3.alloc (.cells #[.slice A3 (dg (a + b)).length x3] 43)) w3.heap.size = some #[.slice A3 (dg (a + b)).length x3] := (by repeat (first | assumption | (refine row_at _ _ _ _ ?_; first | rfl | (simp only [World.size_alloc]; done) | (simp only [World.size_alloc]; omega)) | (refine (row_past _ _ _ ?_).trans ?_; (focus (first | exact Nat.lt_succ_self _ | (simp only [World.size_alloc]; omega) | (simp; done) | (simp; omega) | omega))) | rw [row_drewN] | rw [row_drew]))
  go_wp2_with fail
  go_region_with (first | (go_at_call 28; refine (ofn_any m hm _).mono ?_; rintro e w4 ⟨A4, x4, rfl, hN4, hb4, _⟩; have r4 := (row_below hb4 (g := w3.heap.size) (by show w3.heap.size < (w3.heap.push _).size; simp)).trans R4; have q4 : w4.cell? ⟨w3.heap.size, 0, none⟩ = some (.slice A3 (dg (a + b)).length x3) := row_cell r4 0) | (go_at_call 29; refine (cmp_any A3 A4 _ x3 _ x4 (a + b) m _ ((NatV.draw M4).stay hb4) hN4 (by omega) (by omega)).mono ?_; rintro e w5 ⟨rfl, hb5⟩))
  all_goals
    have r5 := (row_below hb5 (row_lt r4)).trans r4
    have q5 : w5.cell? ⟨w3.heap.size, 0, none⟩ = some (.slice A3 (dg (a + b)).length x3) := row_cell r5 0
    have M5 := ((NatV.draw M4).stay hb4).stay hb5
    have B5 : Below w.heap.size w w5 := (by repeat (first | exact Below.refl _ _ | assumption | (refine Below.allocT ?_ _) | refine Below.drew ?_ | refine below_drewN ?_ _ | (refine Below.then ?_ (by assumption)) | (refine Below.setRow ?_ ?_ _; rotate_left; (focus (first | exact Nat.lt_succ_self _ | (simp only [World.size_alloc]; omega) | (simp; done) | (simp; omega) | omega))) | (refine Below.setCell ?_ ?_ _; rotate_left; (focus (first | exact Nat.lt_succ_self _ | (simp only [World.size_alloc]; omega) | (simp; done) | (simp; omega) | omega))) | (refine Below.then' ?_ (by assumption) ?_; rotate_left; (focus (first | exact Nat.lt_succ_self _ | (simp only [World.size_alloc]; omega) | (simp; done) | (simp; omega) | omega))) | fail))
    clear r4 q4 r5 R4 M4 hb4 hb5 hN4 B3 hN3
    by_cases hlt : a + b < m
    · have hc : cmpI (a + b) m < 0 := by unfold cmpI; rw [if_pos hlt]; omega
      rw [show min (a + b) m = a + b from by omega] at HR
      go_wp2_with fail
      refine (uint_any A3 _ x3 (a + b) _ M5 (by omega)).mono ?_
      rw [fit_le (show a + b ≤ 18446744073709551615 by omega)]
      rintro e w6 ⟨rfl, hb6⟩
      have B6 : Below w.heap.size w w6 := (by repeat (first | exact Below.refl _ _ | assumption | (refine Below.allocT ?_ _) | refine Below.drew ?_ | refine below_drewN ?_ _ | (refine Below.then ?_ (by assumption)) | (refine Below.setRow ?_ ?_ _; rotate_left; (focus (first | exact Nat.lt_succ_self _ | (simp only [World.size_alloc]; omega) | (simp; done) | (simp; omega) | omega))) | (refine Below.setCell ?_ ?_ _; rotate_left; (focus (first | exact Nat.lt_succ_self _ | (simp only [World.size_alloc]; omega) | (simp; done) | (simp; omega) | omega))) | (refine Below.then' ?_ (by assumption) ?_; rotate_left; (focus (first | exact Nat.lt_succ_self _ | (simp only [World.size_alloc]; omega) | (simp; done) | (simp; omega) | omega))) | fail))
      clear hc M5 q5
      by_cases hgt : b < a
      · have hc2 : 0 < cmpI a b := by unfold cmpI; rw [if_neg (by omega), if_pos hgt]; omega
        go_wp2_with fail
        refine (ofn_any a ha _).mono ?_
        rintro e w7 ⟨A7, x7, rfl, hN7, hb7, _⟩
        go_wp2_with fail
        refine (ofn_any b hb _).mono ?_
        rintro e w8 ⟨A8, x8, rfl, hN8, hb8, _⟩
        go_wp2_with fail
        refine (cmp_any A7 A8 _ x7 _ x8 a b _ (hN7.stay hb8) hN8 (by omega) (by omega)).mono ?_
        rintro e w9 ⟨rfl, hb9⟩
        have B9 : Below w.heap.size w w9 := (by repeat (first | exact Below.refl _ _ | assumption | (refine Below.allocT ?_ _) | refine Below.drew ?_ | refine below_drewN ?_ _ | (refine Below.then ?_ (by assumption)) | (refine Below.setRow ?_ ?_ _; rotate_left; (focus (first | exact Nat.lt_succ_self _ | (simp only [World.size_alloc]; omega) | (simp; done) | (simp; omega) | omega))) | (refine Below.setCell ?_ ?_ _; rotate_left; (focus (first | exact Nat.lt_succ_self _ | (simp only [World.size_alloc]; omega) | (simp; done) | (simp; omega) | omega))) | (refine Below.then' ?_ (by assumption) ?_; rotate_left; (focus (first | exact Nat.lt_succ_self _ | (simp only [World.size_alloc]; omega) | (simp; done) | (simp; omega) | omega))) | fail))
        clear hb7 hb8 hb9 hN7 hN8
        go_wp2_with fail
        refine (ofn_any a ha _).mono ?_
        rintro e w10 ⟨A7, x7, rfl, hN7, hb7, _⟩
        go_wp2_with fail
        refine (ofn_any b hb _).mono ?_
        rintro e w11 ⟨A8, x8, rfl, hN8, hb8, _⟩
        go_wp2_with fail
        refine (sub_any A7 A8 _ x7 _ x8 a b _ (hN7.stay hb8) hN8 (by omega) (by omega) (by omega)).mono ?_
        rintro e w12 ⟨A9, x9, rfl, hN9, hb9, _⟩
        go_wp2_with fail
        refine (uint_any A9 _ x9 (a - b) _ hN9 (by omega)).mono ?_
        rw [fit_le (show a - b ≤ 18446744073709551615 by omega)]
        rintro e w14 ⟨rfl, hb10⟩
        go_wp2_with fail
        refine (HR.out _).mono ?_
        rintro e w13 ⟨rfl, rfl⟩
        go_wp2_with fail
        refine (HF.out _).mono ?_
        rintro e w13 ⟨rfl, rfl⟩
        go_wp2_with fail
        go_ret
        exact ⟨rfl, (by repeat (first | exact Below.refl _ _ | assumption | (refine Below.allocT ?_ _) | refine Below.drew ?_ | refine below_drewN ?_ _ | (refine Below.then ?_ (by assumption)) | (refine Below.setRow ?_ ?_ _; rotate_left; (focus (first | exact Nat.lt_succ_self _ | (simp only [World.size_alloc]; omega) | (simp; done) | (simp; omega) | omega))) | (refine Below.setCell ?_ ?_ _; rotate_left; (focus (first | exact Nat.lt_succ_self _ | (simp only [World.size_alloc]; omega) | (simp; done) | (simp; omega) | omega))) | (refine Below.then' ?_ (by assumption) ?_; rotate_left; (focus (first | exact Nat.lt_succ_self _ | (simp only [World.size_alloc]; omega) | (simp; done) | (simp; omega) | omega))) | fail))⟩
      · have hc2 : cmpI a b ≤ 0 := by unfold cmpI; split <;> (try split) <;> omega
        rw [show a - b = 0 from by omega] at HF
        go_wp2_with fail
        refine (ofn_any a ha _).mono ?_
        rintro e w7 ⟨A7, x7, rfl, hN7, hb7, _⟩
        go_wp2_with fail
        refine (ofn_any b hb _).mono ?_
        rintro e w8 ⟨A8, x8, rfl, hN8, hb8, _⟩
        go_wp2_with fail
        refine (cmp_any A7 A8 _ x7 _ x8 a b _ (hN7.stay hb8) hN8 (by omega) (by omega)).mono ?_
        rintro e w9 ⟨rfl, hb9⟩
        have B9 : Below w.heap.size w w9 := (by repeat (first | exact Below.refl _ _ | assumption | (refine Below.allocT ?_ _) | refine Below.drew ?_ | refine below_drewN ?_ _ | (refine Below.then ?_ (by assumption)) | (refine Below.setRow ?_ ?_ _; rotate_left; (focus (first | exact Nat.lt_succ_self _ | (simp only [World.size_alloc]; omega) | (simp; done) | (simp; omega) | omega))) | (refine Below.setCell ?_ ?_ _; rotate_left; (focus (first | exact Nat.lt_succ_self _ | (simp only [World.size_alloc]; omega) | (simp; done) | (simp; omega) | omega))) | (refine Below.then' ?_ (by assumption) ?_; rotate_left; (focus (first | exact Nat.lt_succ_self _ | (simp only [World.size_alloc]; omega) | (simp; done) | (simp; omega) | omega))) | fail))
        clear hb7 hb8 hb9 hN7 hN8
        go_wp2_with fail
        refine (HR.out _).mono ?_
        rintro e w13 ⟨rfl, rfl⟩
        go_wp2_with fail
        refine (HF.out _).mono ?_
        rintro e w13 ⟨rfl, rfl⟩
        go_wp2_with fail
        go_ret
        exact ⟨rfl, (by repeat (first | exact Below.refl _ _ | assumption | (refine Below.allocT ?_ _) | refine Below.drew ?_ | refine below_drewN ?_ _ | (refine Below.then ?_ (by assumption)) | (refine Below.setRow ?_ ?_ _; rotate_left; (focus (first | exact Nat.lt_succ_self _ | (simp only [World.size_alloc]; omega) | (simp; done) | (simp; omega) | omega))) | (refine Below.setCell ?_ ?_ _; rotate_left; (focus (first | exact Nat.lt_succ_self _ | (simp only [World.size_alloc]; omega) | (simp; done) | (simp; omega) | omega))) | (refine Below.then' ?_ (by assumption) ?_; rotate_left; (focus (first | exact Nat.lt_succ_self _ | (simp only [World.size_alloc]; omega) | (simp; done) | (simp; omega) | omega))) | fail))⟩
    · have hc : 0 ≤ cmpI (a + b) m := by unfold cmpI; split <;> (try split) <;> omega
      rw [show min (a + b) m = m from by omega] at HR
      clear M5 q5
      by_cases hgt : b < a
      · have hc2 : 0 < cmpI a b := by unfold cmpI; rw [if_neg (by omega), if_pos hgt]; omega
        go_wp2_with fail
        refine (ofn_any a ha _).mono ?_
        rintro e w7 ⟨A7, x7, rfl, hN7, hb7, _⟩
        go_wp2_with fail
        refine (ofn_any b hb _).mono ?_
        rintro e w8 ⟨A8, x8, rfl, hN8, hb8, _⟩
        go_wp2_with fail
        refine (cmp_any A7 A8 _ x7 _ x8 a b _ (hN7.stay hb8) hN8 (by omega) (by omega)).mono ?_
        rintro e w9 ⟨rfl, hb9⟩
        have B9 : Below w.heap.size w w9 := (by repeat (first | exact Below.refl _ _ | assumption | (refine Below.allocT ?_ _) | refine Below.drew ?_ | refine below_drewN ?_ _ | (refine Below.then ?_ (by assumption)) | (refine Below.setRow ?_ ?_ _; rotate_left; (focus (first | exact Nat.lt_succ_self _ | (simp only [World.size_alloc]; omega) | (simp; done) | (simp; omega) | omega))) | (refine Below.setCell ?_ ?_ _; rotate_left; (focus (first | exact Nat.lt_succ_self _ | (simp only [World.size_alloc]; omega) | (simp; done) | (simp; omega) | omega))) | (refine Below.then' ?_ (by assumption) ?_; rotate_left; (focus (first | exact Nat.lt_succ_self _ | (simp only [World.size_alloc]; omega) | (simp; done) | (simp; omega) | omega))) | fail))
        clear hb7 hb8 hb9 hN7 hN8
        go_wp2_with fail
        refine (ofn_any a ha _).mono ?_
        rintro e w10 ⟨A7, x7, rfl, hN7, hb7, _⟩
        go_wp2_with fail
        refine (ofn_any b hb _).mono ?_
        rintro e w11 ⟨A8, x8, rfl, hN8, hb8, _⟩
        go_wp2_with fail
        refine (sub_any A7 A8 _ x7 _ x8 a b _ (hN7.stay hb8) hN8 (by omega) (by omega) (by omega)).mono ?_
        rintro e w12 ⟨A9, x9, rfl, hN9, hb9, _⟩
        go_wp2_with fail
        refine (uint_any A9 _ x9 (a - b) _ hN9 (by omega)).mono ?_
        rw [fit_le (show a - b ≤ 18446744073709551615 by omega)]
        rintro e w14 ⟨rfl, hb10⟩
        go_wp2_with fail
        refine (HR.out _).mono ?_
        rintro e w13 ⟨rfl, rfl⟩
        go_wp2_with fail
        refine (HF.out _).mono ?_
        rintro e w13 ⟨rfl, rfl⟩
        go_wp2_with fail
        go_ret
        exact ⟨rfl, (by repeat (first | exact Below.refl _ _ | assumption | (refine Below.allocT ?_ _) | refine Below.drew ?_ | refine below_drewN ?_ _ | (refine Below.then ?_ (by assumption)) | (refine Below.setRow ?_ ?_ _; rotate_left; (focus (first | exact Nat.lt_succ_self _ | (simp only [World.size_alloc]; omega) | (simp; done) | (simp; omega) | omega))) | (refine Below.setCell ?_ ?_ _; rotate_left; (focus (first | exact Nat.lt_succ_self _ | (simp only [World.size_alloc]; omega) | (simp; done) | (simp; omega) | omega))) | (refine Below.then' ?_ (by assumption) ?_; rotate_left; (focus (first | exact Nat.lt_succ_self _ | (simp only [World.size_alloc]; omega) | (simp; done) | (simp; omega) | omega))) | fail))⟩
      · have hc2 : cmpI a b ≤ 0 := by unfold cmpI; split <;> (try split) <;> omega
        rw [show a - b = 0 from by omega] at HF
        go_wp2_with fail
        refine (ofn_any a ha _).mono ?_
        rintro e w7 ⟨A7, x7, rfl, hN7, hb7, _⟩
        go_wp2_with fail
        refine (ofn_any b hb _).mono ?_
        rintro e w8 ⟨A8, x8, rfl, hN8, hb8, _⟩
        go_wp2_with fail
        refine (cmp_any A7 A8 _ x7 _ x8 a b _ (hN7.stay hb8) hN8 (by omega) (by omega)).mono ?_
        rintro e w9 ⟨rfl, hb9⟩
        have B9 : Below w.heap.size w w9 := (by repeat (first | exact Below.refl _ _ | assumption | (refine Below.allocT ?_ _) | refine Below.drew ?_ | refine below_drewN ?_ _ | (refine Below.then ?_ (by assumption)) | (refine Below.setRow ?_ ?_ _; rotate_left; (focus (first | exact Nat.lt_succ_self _ | (simp only [World.size_alloc]; omega) | (simp; done) | (simp; omega) | omega))) | (refine Below.setCell ?_ ?_ _; rotate_left; (focus (first | exact Nat.lt_succ_self _ | (simp only [World.size_alloc]; omega) | (simp; done) | (simp; omega) | omega))) | (refine Below.then' ?_ (by assumption) ?_; rotate_left; (focus (first | exact Nat.lt_succ_self _ | (simp only [World.size_alloc]; omega) | (simp; done) | (simp; omega) | omega))) | fail))
        clear hb7 hb8 hb9 hN7 hN8
        go_wp2_with fail
        refine (HR.out _).mono ?_
        rintro e w13 ⟨rfl, rfl⟩
        go_wp2_with fail
        refine (HF.out _).mono ?_
        rintro e w13 ⟨rfl, rfl⟩
        go_wp2_with fail
        go_ret
        exact ⟨rfl, (by repeat (first | exact Below.refl _ _ | assumption | (refine Below.allocT ?_ _) | refine Below.drew ?_ | refine below_drewN ?_ _ | (refine Below.then ?_ (by assumption)) | (refine Below.setRow ?_ ?_ _; rotate_left; (focus (first | exact Nat.lt_succ_self _ | (simp only [World.size_alloc]; omega) | (simp; done) | (simp; omega) | omega))) | (refine Below.setCell ?_ ?_ _; rotate_left; (focus (first | exact Nat.lt_succ_self _ | (simp only [World.size_alloc]; omega) | (simp; done) | (simp; omega) | omega))) | (refine Below.then' ?_ (by assumption) ?_; rotate_left; (focus (first | exact Nat.lt_succ_self _ | (simp only [World.size_alloc]; omega) | (simp; done) | (simp; omega) | omega))) | fail))⟩
set_option maxHeartbeats 400000 in
theorem moneyTotals_any (A : Option Addr) (xs : List Nat) (n c : Nat) (hn : xs.length = n) (hx : ∀ i, xs.getD i 0 < 18446744073709551616) (hm : n ≤ 9223372036854775807) (w : World) (hU : U64s w A xs) :
    Calls Try.prog 5 #[.slice A n c] w fun e w' => e = .returned (.bool true) ∧ Below w.heap.size w w' := by
  by_cases h200 : 200 < n
  · go_enter Try.func5, Try.ntmps5
    go_wp2_with fail
    refine (awake01_any _).mono ?_
    rintro e w1 ⟨rfl, rfl⟩
    go_wp2_with fail
    go_ret
    exact ⟨rfl, Below.refl _ _⟩
  · have HS := Lib.hid (fun W hW => msum_any A xs n c hn hx hm W hW)
    have HQ := Lib.hid (fun W hW => rsum_any A xs n c hn hx (by omega) W hW)
    have lt := total_len xs hx (by omega) n (by omega)
    rw [show xs.take n = xs by rw [← hn, List.take_length]] at lt
    have HN := Lib.hid hn
    clear hn
    go_enter Try.func5, Try.ntmps5
    go_wp2_with fail
    refine (awake01_any _).mono ?_
    rintro e w1 ⟨rfl, rfl⟩
    go_wp2_with fail
    refine (HS.out _ hU).mono ?_
    rintro e w1 ⟨rfl, rfl⟩
    go_wp2_with fail
    refine (HQ.out _ hU).mono ?_
    rintro e w2 ⟨A1, x1, rfl, hN1, hb1, _⟩
    go_wp2_with fail
    refine (told_any A1 _ x1 (total xs) _ hN1 (by omega)).mono ?_
    rintro e w3 ⟨rfl, hb2⟩
    go_wp2_with fail
    refine (tells_any _ _ _ _ rfl).mono ?_
    rintro e w4 ⟨rfl, rfl⟩
    go_wp2_with fail
    go_ret
    exact ⟨rfl, (by repeat (first | exact Below.refl _ _ | assumption | (refine Below.allocT ?_ _) | refine Below.drew ?_ | refine below_drewN ?_ _ | (refine Below.then ?_ (by assumption)) | (refine Below.setRow ?_ ?_ _; rotate_left; (focus (first | exact Nat.lt_succ_self _ | (simp only [World.size_alloc]; omega) | (simp; done) | (simp; omega) | omega))) | (refine Below.setCell ?_ ?_ _; rotate_left; (focus (first | exact Nat.lt_succ_self _ | (simp only [World.size_alloc]; omega) | (simp; done) | (simp; omega) | omega))) | (refine Below.then' ?_ (by assumption) ?_; rotate_left; (focus (first | exact Nat.lt_succ_self _ | (simp only [World.size_alloc]; omega) | (simp; done) | (simp; omega) | omega))) | fail))⟩
end Go.Proofs.Ytfdjmpaikbaepaa
