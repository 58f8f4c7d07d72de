/-
  The walk of BudgetRises: it answers true whatever the arguments.
-/
import Derived.Test.YtkfbnaafpikgfaaLaw13
namespace Go.Proofs.Ytkfbnaafpikgfaa
open Go.RowKit
set_option linter.unusedVariables false

def rateP (P : Par) (r : Nat) : Par := { P with rate := r }
theorem Par.set_rate (P : Par) (r : Nat) : P.cells.setIfInBounds 12 (.int .u64 (r : Int)) = (rateP P r).cells := rfl
theorem rateP_rate (P : Par) (r : Nat) : (rateP P r).rate = r := rfl
theorem right_rate {P : Par} (h : rightB P = true) {r : Nat} (hr : r ≤ 4294967296) : rightB (rateP P r) = true := by
  obtain ⟨h1, h2, h3, h4, h5⟩ := right_facts h
  have g1 : stakesB (rateP P r) = true := h1
  have g2 : scoresB (rateP P r) = true := h2
  have g4 : leakT (rateP P r) ≤ 1048576 := h4
  have g5 : (rateP P r).bias * leakT (rateP P r) ≤ (rateP P r).scoreCap := h5
  have g3 : othersB (rateP P r) = true := by
    unfold othersB othersL at h3 ⊢
    simp only [List.all_cons, Bool.and_eq_true, id] at h3 ⊢
    exact ⟨decide_eq_true (show ((r : Nat) : Int) ≤ 4294967296 by omega), h3.2⟩
  unfold rightB
  simp [g1, g2, g3, g4, g5]
theorem quo_le {a r : Nat} (ha : 1 ≤ a) (h2 : a ≤ 1099511627776) (hr : r ≤ 4294967296) : a * r / (1048576 * rootN a) ≤ 4503599627370496 ∧ a * r / (1048576 * rootN a) ≤ upQ (a * r) 1048576 ∧ upQ (a * r) 1048576 ≤ 4503599627370497 := by
  have hp := root_pos (n := a) (by omega)
  have h3 : a * r ≤ 1099511627776 * 4294967296 := Nat.mul_le_mul h2 hr
  have h4 : a * r / (1048576 * rootN a) ≤ a * r / 1048576 := Nat.div_le_div_left (by omega) (by omega)
  have h5 : a * r / 1048576 ≤ 4503599627370496 := by
    have := Nat.div_le_div_right (c := 1048576) h3
    exact Nat.le_trans this (by decide)
  have h6 := upQ_le (a * r) 1048576
  have h7 : a * r / 1048576 ≤ upQ (a * r) 1048576 := by unfold upQ; omega
  omega
theorem bud_small {P : Par} {a : Nat} (ha : 1 ≤ a) (h2 : a ≤ 1099511627776) (hr : P.rate ≤ 4294967296) : budN P a = a * P.rate / (1048576 * rootN a) := by
  have hp := root_pos (n := a) (by omega)
  have hq := (quo_le ha h2 hr).1
  unfold budN quoV
  rw [if_neg (by omega), if_neg (by omega), fit_le (by omega)]
attribute [local go_sem] Par.set_rate rateP_rate
set_option maxHeartbeats 4000000 in
set_option maxRecDepth 100000 in
theorem budgetRises_any (P : Par) (a : Nat) (ha : a < 18446744073709551616) (w : World) : Calls Try.prog 5 #[.agg P.cells, .int .u64 a] w fun e w' => e = .returned (.bool true) ∧ Below w.heap.size w w' := by
  have r0 : row (w.alloc (.cells P.cells 24)) w.heap.size = some P.cells := (by (repeat (first | assumption | (refine row_at _ _ _ _ ?_; first | rfl | (simp only [World.size_alloc]; done) | (simp only [World.size_alloc]; omega)) | (refine (row_past _ _ _ ?_).trans ?_; (focus (first | exact Nat.lt_succ_self _ | ((repeat rw [World.size_alloc]); omega) | (simp; done) | (simp; omega) | omega))) | rw [row_drewN] | rw [row_drew])); (first | done | fail))
  have hB0 : Below w.heap.size w (w.alloc (.cells P.cells 24)) := (by (repeat (first | exact Below.refl _ _ | assumption | (refine Below.allocT ?_ _) | refine Below.drew ?_ | refine below_drewN ?_ _ | (refine Below.then ?_ (by assumption)) | (refine Below.setRow ?_ ?_ _; rotate_left; (focus (first | exact Nat.lt_succ_self _ | ((repeat rw [World.size_alloc]); omega) | (simp; done) | (simp; omega) | omega))) | (refine Below.setCell ?_ ?_ _; rotate_left; (focus (first | exact Nat.lt_succ_self _ | ((repeat rw [World.size_alloc]); omega) | (simp; done) | (simp; omega) | omega))) | (refine Below.then' ?_ (by assumption) ?_; rotate_left; (focus (first | exact Nat.lt_succ_self _ | ((repeat rw [World.size_alloc]); omega) | (simp; done) | (simp; omega) | omega))) | fail)); (first | done | fail))
  have HR := Lib.hid (fun W => right_any P W)
  cases hr : rightB P
  · rw [hr] at HR
    clear hr
    go_enter Try.func5, Try.ntmps5
    go_wp2_with fail
    generalize w.alloc (.cells P.cells 24) = w0 at *
    refine (awake13_any _).mono ?_
    rintro e w1 ⟨rfl, hb1⟩
    have r1 := (row_below hb1 (row_lt r0)).trans r0
    have hB1 := Below.then hB0 hb1
    clear r0 hB0 hb1
    go_wp2_with fail
    refine (plain_any P _).mono ?_
    rintro e w2 ⟨rfl, hb2⟩
    have hB2 := Below.then hB1 hb2
    clear r1 hB1 hb2
    go_wp2_with fail
    refine (HR.out _).mono ?_
    rintro e w3 ⟨rfl, hb3⟩
    have hB3 := Below.then hB2 hb3
    clear  hB2 hb3
    go_wp2_with fail
    go_ret
    exact ⟨rfl, hB3⟩
  · rw [hr] at HR
    have hcase : (a < 1) ∨ (¬ a < 1 ∧ 1099511627776 < a) ∨ (¬ a < 1 ∧ ¬ 1099511627776 < a ∧ 4294967296 ≤ P.rate) ∨ (¬ a < 1 ∧ ¬ 1099511627776 < a ∧ ¬ 4294967296 ≤ P.rate) := by omega
    rcases hcase with h1 | ⟨h1, h2⟩ | ⟨h1, h2, h3⟩ | ⟨h1, h2, h3⟩
    · obtain rfl : a = 0 := by omega
      clear hr h1
      go_enter Try.func5, Try.ntmps5
      go_wp2_with fail
      generalize w.alloc (.cells P.cells 24) = w0 at *
      refine (awake13_any _).mono ?_
      rintro e w1 ⟨rfl, hb1⟩
      have r1 := (row_below hb1 (row_lt r0)).trans r0
      have hB1 := Below.then hB0 hb1
      clear r0 hB0 hb1
      go_wp2_with fail
      refine (plain_any P _).mono ?_
      rintro e w2 ⟨rfl, hb2⟩
      have hB2 := Below.then hB1 hb2
      clear r1 hB1 hb2
      go_wp2_with fail
      refine (HR.out _).mono ?_
      rintro e w3 ⟨rfl, hb3⟩
      have hB3 := Below.then hB2 hb3
      clear  hB2 hb3
      go_wp2_with fail
      go_ret
      exact ⟨rfl, hB3⟩
    · clear hr
      go_enter Try.func5, Try.ntmps5
      go_wp2_with fail
      generalize w.alloc (.cells P.cells 24) = w0 at *
      refine (awake13_any _).mono ?_
      rintro e w1 ⟨rfl, hb1⟩
      have r1 := (row_below hb1 (row_lt r0)).trans r0
      have hB1 := Below.then hB0 hb1
      clear r0 hB0 hb1
      go_wp2_with fail
      refine (plain_any P _).mono ?_
      rintro e w2 ⟨rfl, hb2⟩
      have hB2 := Below.then hB1 hb2
      clear r1 hB1 hb2
      go_wp2_with fail
      refine (HR.out _).mono ?_
      rintro e w3 ⟨rfl, hb3⟩
      have hB3 := Below.then hB2 hb3
      clear  hB2 hb3
      go_wp2_with fail
      go_ret
      exact ⟨rfl, hB3⟩
    · clear hr
      go_enter Try.func5, Try.ntmps5
      go_wp2_with fail
      generalize w.alloc (.cells P.cells 24) = w0 at *
      refine (awake13_any _).mono ?_
      rintro e w1 ⟨rfl, hb1⟩
      have r1 := (row_below hb1 (row_lt r0)).trans r0
      have hB1 := Below.then hB0 hb1
      clear r0 hB0 hb1
      go_wp2_with fail
      refine (plain_any P _).mono ?_
      rintro e w2 ⟨rfl, hb2⟩
      have r2 := (row_below hb2 (row_lt r1)).trans r1
      have hB2 := Below.then hB1 hb2
      clear r1 hB1 hb2
      go_wp2_with fail
      refine (HR.out _).mono ?_
      rintro e w3 ⟨rfl, hb3⟩
      have r3 := (row_below hb3 (row_lt r2)).trans r2
      have hB3 := Below.then hB2 hb3
      clear r2 hB2 hb3
      have cr3 := fun i => row_cell r3 i
      have lr3 := row_lt r3
      go_wp2_with fail
      go_ret
      exact ⟨rfl, hB3⟩
    · obtain ⟨q, hq⟩ : ∃ q, q = P.rate + 1 := ⟨_, rfl⟩
      have E1 : IntKind.u64.wrap ((P.rate : Int) + 1) = (q : Int) := by rw [show (P.rate : Int) + 1 = ((q : Nat) : Int) by omega]; exact Bits.wrapN _ (by omega)
      have hr2 := right_rate hr (r := q) (by omega)
      have hs1 := bud_small (P := P) (a := a) (by omega) (by omega) (by omega)
      have hs2 := bud_small (P := rateP P q) (a := a) (by omega) (by omega) (by rw [rateP_rate]; omega)
      have hu := quo_le (a := a) (r := q) (by omega) (by omega) (by omega)
      rw [rateP_rate] at hs2
      have hmono : budN P a ≤ budN (rateP P q) a := by
        rw [hs1, hs2]
        exact Nat.div_le_div_right (Nat.mul_le_mul_left _ (by omega))
      have HO1 := Lib.hid (fun W => bof_any P a ha W)
      have HO2 := Lib.hid (fun W => bof_any (rateP P q) a ha W)
      have HU := Lib.hid (fun W => up_any a q 1048576 ha (by omega) (by omega) W)
      have hfit := up_fit (n := a * q) (c := 1048576) (by omega) (by omega)
      rw [hfit.1, hfit.2] at HU
      rw [show budV P a = budN P a by simp [budV, hr]] at HO1
      rw [show budV (rateP P q) a = budN (rateP P q) a by simp [budV, hr2]] at HO2
      rw [← hs2] at hu
      have hle := hu.2.1
      generalize budN P a = b1 at *
      generalize budN (rateP P q) a = b2 at *
      generalize upQ (a * q) 1048576 = u at *
      clear hr hr2 hs1 hs2 hu hfit hq
      go_enter Try.func5, Try.ntmps5
      go_wp2_with fail
      generalize w.alloc (.cells P.cells 24) = w0 at *
      refine (awake13_any _).mono ?_
      rintro e w1 ⟨rfl, hb1⟩
      have r1 := (row_below hb1 (row_lt r0)).trans r0
      have hB1 := Below.then hB0 hb1
      clear r0 hB0 hb1
      go_wp2_with fail
      refine (plain_any P _).mono ?_
      rintro e w2 ⟨rfl, hb2⟩
      have r2 := (row_below hb2 (row_lt r1)).trans r1
      have hB2 := Below.then hB1 hb2
      clear r1 hB1 hb2
      go_wp2_with fail
      refine (HR.out _).mono ?_
      rintro e w3 ⟨rfl, hb3⟩
      have r3 := (row_below hb3 (row_lt r2)).trans r2
      have hB3 := Below.then hB2 hb3
      clear r2 hB2 hb3
      have cr3 := fun i => row_cell r3 i
      have lr3 := row_lt r3
      go_wp2_with fail
      refine (HO1.out _).mono ?_
      rintro e w4 ⟨rfl, hb4⟩
      have r4 := (row_below hb4 (row_lt r3)).trans r3
      have hB4 := Below.then hB3 hb4
      clear r3 hB3 hb4 cr3 lr3
      have cr4 := fun i => row_cell r4 i
      have fr4 := fun i => row_frozen r4 i
      go_wp2_with fail
      refine (HO2.out _).mono ?_
      rintro e w5 ⟨rfl, hb5⟩
      have r5 : row w5 w.heap.size = some (rateP P q).cells := (row_below hb5 (by simpa using row_lt r4)).trans (row_set r4 12 _)
      have hB5 : Below w.heap.size w w5 := (below_own hB4 (Nat.le_refl _) 12 _).trans (hb5.mono (by have := hB4.size; simpa using this))
      clear r4 hB4 hb5 cr4 fr4
      have cr5 := fun i => row_cell r5 i
      go_wp2_with fail
      refine (HU.out _).mono ?_
      rintro e w6 ⟨rfl, hb6⟩
      go_wp2_with fail
      go_ret
      exact ⟨rfl, Below.then hB5 hb6⟩
end Go.Proofs.Ytkfbnaafpikgfaa
