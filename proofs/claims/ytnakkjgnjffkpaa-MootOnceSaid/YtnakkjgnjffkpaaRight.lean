/-
  What bullionref07.Right answers: just when parameters are right.
-/
import Derived.Test.YtnakkjgnjffkpaaTicks
namespace Go.Proofs.Ytnakkjgnjffkpaa
open Go.RowKit
set_option linter.unusedVariables false

def rightB (P : Par) : Bool := stakesB P && (scoresB P && (othersB P && (decide (leakT P ≤ 1048576) && decide (P.bias * leakT P ≤ P.scoreCap))))
theorem stakes_facts {P : Par} (h : stakesB P = true) : 1 ≤ P.inc ∧ P.inc ≤ 2147483648 ∧ P.inc ≤ P.maxEff ∧ P.maxEff ≤ 1099511627776 ∧ P.inc ≤ P.floor ∧ P.floor < P.cap ∧ P.maxEff ≤ P.cap ∧ P.cap ≤ 1099511627776 ∧ P.inc ≤ P.up ∧ P.up ≤ 1099511627776 ∧ P.down ≤ 1099511627776 ∧ P.maxEff % P.inc = 0 := by
  simp [stakesB, stakesL, inI] at h; omega
theorem scores_facts {P : Par} (h : scoresB P = true) : 1 ≤ P.bias ∧ P.bias ≤ 4294967296 ∧ P.bias ≤ P.biasEm ∧ P.biasEm ≤ 4294967296 ∧ 1 ≤ P.quot ∧ P.quot ≤ 1099511627776 ∧ 1 ≤ P.quotEm ∧ P.quotEm ≤ P.quot ∧ P.recover ≤ 4294967296 ∧ 1 ≤ P.scoreCap ∧ P.scoreCap ≤ 72057594037927936 := by
  simp [scoresB, scoresL, inI] at h; omega
theorem others_facts {P : Par} (h : othersB P = true) : P.rate ≤ 4294967296 ∧ P.bond ≤ 1099511627776 ∧ (0 ≤ P.delay ∧ P.delay ≤ 1000) ∧ (0 ≤ P.wait ∧ P.wait ≤ 50) ∧ (0 ≤ P.enact ∧ P.enact ≤ 1000) ∧ (1 ≤ P.poll ∧ P.poll ≤ 1000) ∧ (0 ≤ P.streak ∧ P.streak ≤ 64) ∧ (0 ≤ P.boost ∧ P.boost ≤ 1000) ∧ (0 ≤ P.absent ∧ P.absent ≤ 10000) ∧ (0 ≤ P.burn ∧ P.burn ≤ 10000) ∧ (0 ≤ P.quorum ∧ P.quorum ≤ 10000) ∧ (1 ≤ P.churn ∧ P.churn ≤ 64) := by
  simp [othersB, othersL, inI] at h; omega
theorem leakOk_of {P : Par} (h1 : stakesB P = true) (h2 : scoresB P = true) : LeakOk P := by
  have a := stakes_facts h1
  have b := scores_facts h2
  unfold LeakOk; omega
theorem rwide_any (n lo hi : Int) (w : World) : Calls Try.prog 101 #[.int .u64 n, .int .u64 lo, .int .u64 hi] w fun e w' => e = .returned (.bool (inI n lo hi)) ∧ w = w' := by
  by_cases h1 : lo ≤ n
  all_goals by_cases h2 : n ≤ hi
  all_goals
    go_enter Try.func101, Try.ntmps101
    go_wp2
    go_ret
    exact ⟨ret_bool (by simp [inI]; omega), rfl⟩
theorem rin_any (n lo hi : Int) (w : World) : Calls Try.prog 102 #[.int .i64 n, .int .i64 lo, .int .i64 hi] w fun e w' => e = .returned (.bool (inI n lo hi)) ∧ w = w' := by
  by_cases h1 : lo ≤ n
  all_goals by_cases h2 : n ≤ hi
  all_goals
    go_enter Try.func102, Try.ntmps102
    go_wp2
    go_ret
    exact ⟨ret_bool (by simp [inI]; omega), rfl⟩
theorem right_no0 {P : Par} (h : inI (P.inc : Int) 1 2147483648 = false) : rightB P = false := by
  have : stakesB P = false := by simp [stakesB, stakesL, h]
  simp [rightB, this]
theorem right_no1 {P : Par} (h : inI (P.maxEff : Int) (P.inc : Int) 1099511627776 = false) : rightB P = false := by
  have : stakesB P = false := by simp [stakesB, stakesL, h]
  simp [rightB, this]
theorem right_no2 {P : Par} (h : ¬ P.maxEff % P.inc = 0) : rightB P = false := by
  have : stakesB P = false := by simp [stakesB, stakesL, h]
  simp [rightB, this]
theorem right_no3 {P : Par} (h : ¬ P.inc ≤ P.floor) : rightB P = false := by
  have : stakesB P = false := by simp [stakesB, stakesL, h]
  simp [rightB, this]
theorem right_no4 {P : Par} (h : ¬ P.floor < P.cap) : rightB P = false := by
  have : stakesB P = false := by simp [stakesB, stakesL, h]
  simp [rightB, this]
theorem right_no5 {P : Par} (h : inI (P.cap : Int) (P.maxEff : Int) 1099511627776 = false) : rightB P = false := by
  have : stakesB P = false := by simp [stakesB, stakesL, h]
  simp [rightB, this]
theorem right_no6 {P : Par} (h : inI (P.up : Int) (P.inc : Int) 1099511627776 = false) : rightB P = false := by
  have : stakesB P = false := by simp [stakesB, stakesL, h]
  simp [rightB, this]
theorem right_no7 {P : Par} (h : ¬ (P.down : Int) ≤ 1099511627776) : rightB P = false := by
  have : stakesB P = false := by simp [stakesB, stakesL, h]
  simp [rightB, this]
theorem right_no8 {P : Par} (h : inI (P.bias : Int) 1 4294967296 = false) : rightB P = false := by
  have : scoresB P = false := by simp [scoresB, scoresL, h]
  simp [rightB, this]
theorem right_no9 {P : Par} (h : inI (P.biasEm : Int) (P.bias : Int) 4294967296 = false) : rightB P = false := by
  have : scoresB P = false := by simp [scoresB, scoresL, h]
  simp [rightB, this]
theorem right_no10 {P : Par} (h : inI (P.quot : Int) 1 1099511627776 = false) : rightB P = false := by
  have : scoresB P = false := by simp [scoresB, scoresL, h]
  simp [rightB, this]
theorem right_no11 {P : Par} (h : inI (P.quotEm : Int) 1 (P.quot : Int) = false) : rightB P = false := by
  have : scoresB P = false := by simp [scoresB, scoresL, h]
  simp [rightB, this]
theorem right_no12 {P : Par} (h : ¬ (P.recover : Int) ≤ 4294967296) : rightB P = false := by
  have : scoresB P = false := by simp [scoresB, scoresL, h]
  simp [rightB, this]
theorem right_no13 {P : Par} (h : inI (P.scoreCap : Int) 1 72057594037927936 = false) : rightB P = false := by
  have : scoresB P = false := by simp [scoresB, scoresL, h]
  simp [rightB, this]
theorem right_no14 {P : Par} (h : ¬ (P.rate : Int) ≤ 4294967296) : rightB P = false := by
  have : othersB P = false := by simp [othersB, othersL, h]
  simp [rightB, this]
theorem right_no15 {P : Par} (h : ¬ (P.bond : Int) ≤ 1099511627776) : rightB P = false := by
  have : othersB P = false := by simp [othersB, othersL, h]
  simp [rightB, this]
theorem right_no16 {P : Par} (h : inI P.delay 0 1000 = false) : rightB P = false := by
  have : othersB P = false := by simp [othersB, othersL, h]
  simp [rightB, this]
theorem right_no17 {P : Par} (h : inI P.wait 0 50 = false) : rightB P = false := by
  have : othersB P = false := by simp [othersB, othersL, h]
  simp [rightB, this]
theorem right_no18 {P : Par} (h : inI P.enact 0 1000 = false) : rightB P = false := by
  have : othersB P = false := by simp [othersB, othersL, h]
  simp [rightB, this]
theorem right_no19 {P : Par} (h : inI P.poll 1 1000 = false) : rightB P = false := by
  have : othersB P = false := by simp [othersB, othersL, h]
  simp [rightB, this]
theorem right_no20 {P : Par} (h : inI P.streak 0 64 = false) : rightB P = false := by
  have : othersB P = false := by simp [othersB, othersL, h]
  simp [rightB, this]
theorem right_no21 {P : Par} (h : inI P.boost 0 1000 = false) : rightB P = false := by
  have : othersB P = false := by simp [othersB, othersL, h]
  simp [rightB, this]
theorem right_no22 {P : Par} (h : inI P.absent 0 10000 = false) : rightB P = false := by
  have : othersB P = false := by simp [othersB, othersL, h]
  simp [rightB, this]
theorem right_no23 {P : Par} (h : inI P.burn 0 10000 = false) : rightB P = false := by
  have : othersB P = false := by simp [othersB, othersL, h]
  simp [rightB, this]
theorem right_no24 {P : Par} (h : inI P.quorum 0 10000 = false) : rightB P = false := by
  have : othersB P = false := by simp [othersB, othersL, h]
  simp [rightB, this]
theorem right_no25 {P : Par} (h : inI P.churn 1 64 = false) : rightB P = false := by
  have : othersB P = false := by simp [othersB, othersL, h]
  simp [rightB, this]
set_option maxHeartbeats 8000000 in
set_option maxRecDepth 100000 in
theorem right_any (P : Par) (w : World) : Calls Try.prog 43 #[.agg P.cells] w fun e w' => e = .returned (.bool (rightB P)) ∧ Below w.heap.size w w' := by
  have r1 : row (w.alloc (.cells P.cells 88)) w.heap.size = some P.cells := (by (repeat (first | assumption | (refine row_at _ _ _ _ ?_; first | rfl | (simp only [World.size_alloc]; done) | (simp only [World.size_alloc]; omega)) | (refine (row_past _ _ _ ?_).trans ?_; (focus (first | exact Nat.lt_succ_self _ | ((repeat rw [World.size_alloc]); omega) | (simp; done) | (simp; omega) | omega))) | rw [row_drewN] | rw [row_drew])); (first | done | fail))
  have hB0 : Below w.heap.size w (w.alloc (.cells P.cells 88)) := (by (repeat (first | exact Below.refl _ _ | assumption | (refine Below.allocT ?_ _) | refine Below.drew ?_ | refine below_drewN ?_ _ | (refine Below.then ?_ (by assumption)) | (refine Below.setRow ?_ ?_ _; rotate_left; (focus (first | exact Nat.lt_succ_self _ | ((repeat rw [World.size_alloc]); omega) | (simp; done) | (simp; omega) | omega))) | (refine Below.setCell ?_ ?_ _; rotate_left; (focus (first | exact Nat.lt_succ_self _ | ((repeat rw [World.size_alloc]); omega) | (simp; done) | (simp; omega) | omega))) | (refine Below.then' ?_ (by assumption) ?_; rotate_left; (focus (first | exact Nat.lt_succ_self _ | ((repeat rw [World.size_alloc]); omega) | (simp; done) | (simp; omega) | omega))) | fail)); (first | done | fail))
  go_enter Try.func43, Try.ntmps43
  go_wp2_with fail
  generalize w.alloc (.cells P.cells 88) = W at *
  have hc0 : ∀ i, W.cell? ⟨w.heap.size, i, none⟩ = P.cells[i]? := fun i => row_cell r1 i
  refine (rwide_any _ _ _ _).mono ?_
  rintro e w1 ⟨rfl, rfl⟩
  cases hb : inI (P.inc : Int) 1 2147483648
  · have HX := Lib.hid (right_no0 hb); clear hb
    go_wp2_with fail
    go_ret
    exact ⟨by rw [HX.out]; rfl, hB0⟩
  have H0 := Lib.hid hb; clear hb
  have i0 : 1 ≤ P.inc := by have := H0.out; simp [inI] at this; omega
  have i1 : ((P.inc : Int) == 0) = false := by simp; omega
  have i2 : 0 < (P.inc : Int) := by omega
  go_wp2_with fail
  refine (rwide_any _ _ _ _).mono ?_
  rintro e w1 ⟨rfl, rfl⟩
  cases hb : inI (P.maxEff : Int) (P.inc : Int) 1099511627776
  · have HX := Lib.hid (right_no1 hb); clear hb
    go_wp2_with fail
    go_ret
    exact ⟨by rw [HX.out]; rfl, hB0⟩
  have H1 := Lib.hid hb; clear hb
  by_cases hc : P.maxEff % P.inc = 0
  rotate_left
  · have HX := Lib.hid (right_no2 hc)
    have k2 : ((P.maxEff : Int) % (P.inc : Int) != 0) = true := by rw [← Int.natCast_emod]; simp; omega
    clear hc
    go_wp2_with fail
    go_ret
    exact ⟨by rw [HX.out]; rfl, hB0⟩
  have H2 := Lib.hid hc
  have k2 : ((P.maxEff : Int) % (P.inc : Int) != 0) = false := by rw [← Int.natCast_emod, hc]; rfl
  clear hc
  by_cases hc : P.inc ≤ P.floor
  rotate_left
  · have HX := Lib.hid (right_no3 hc)
    have k3 := hc
    clear hc
    go_wp2_with fail
    go_ret
    exact ⟨by rw [HX.out]; rfl, hB0⟩
  have H3 := Lib.hid hc
  have k3 := hc
  clear hc
  by_cases hc : P.floor < P.cap
  rotate_left
  · have HX := Lib.hid (right_no4 hc)
    have k4 := hc
    clear hc
    go_wp2_with fail
    go_ret
    exact ⟨by rw [HX.out]; rfl, hB0⟩
  have H4 := Lib.hid hc
  have k4 := hc
  clear hc
  go_wp2_with fail
  refine (rwide_any _ _ _ _).mono ?_
  rintro e w1 ⟨rfl, rfl⟩
  cases hb : inI (P.cap : Int) (P.maxEff : Int) 1099511627776
  · have HX := Lib.hid (right_no5 hb); clear hb
    go_wp2_with fail
    go_ret
    exact ⟨by rw [HX.out]; rfl, hB0⟩
  have H5 := Lib.hid hb; clear hb
  go_wp2_with fail
  refine (rwide_any _ _ _ _).mono ?_
  rintro e w1 ⟨rfl, rfl⟩
  cases hb : inI (P.up : Int) (P.inc : Int) 1099511627776
  · have HX := Lib.hid (right_no6 hb); clear hb
    go_wp2_with fail
    go_ret
    exact ⟨by rw [HX.out]; rfl, hB0⟩
  have H6 := Lib.hid hb; clear hb
  by_cases hc : (P.down : Int) ≤ 1099511627776
  rotate_left
  · have HX := Lib.hid (right_no7 hc)
    have k7 := hc
    clear hc
    go_wp2_with fail
    go_ret
    exact ⟨by rw [HX.out]; rfl, hB0⟩
  have H7 := Lib.hid hc
  have k7 := hc
  clear hc
  go_wp2_with fail
  refine (rwide_any _ _ _ _).mono ?_
  rintro e w1 ⟨rfl, rfl⟩
  cases hb : inI (P.bias : Int) 1 4294967296
  · have HX := Lib.hid (right_no8 hb); clear hb
    go_wp2_with fail
    go_ret
    exact ⟨by rw [HX.out]; rfl, hB0⟩
  have H8 := Lib.hid hb; clear hb
  go_wp2_with fail
  refine (rwide_any _ _ _ _).mono ?_
  rintro e w1 ⟨rfl, rfl⟩
  cases hb : inI (P.biasEm : Int) (P.bias : Int) 4294967296
  · have HX := Lib.hid (right_no9 hb); clear hb
    go_wp2_with fail
    go_ret
    exact ⟨by rw [HX.out]; rfl, hB0⟩
  have H9 := Lib.hid hb; clear hb
  go_wp2_with fail
  refine (rwide_any _ _ _ _).mono ?_
  rintro e w1 ⟨rfl, rfl⟩
  cases hb : inI (P.quot : Int) 1 1099511627776
  · have HX := Lib.hid (right_no10 hb); clear hb
    go_wp2_with fail
    go_ret
    exact ⟨by rw [HX.out]; rfl, hB0⟩
  have H10 := Lib.hid hb; clear hb
  go_wp2_with fail
  refine (rwide_any _ _ _ _).mono ?_
  rintro e w1 ⟨rfl, rfl⟩
  cases hb : inI (P.quotEm : Int) 1 (P.quot : Int)
  · have HX := Lib.hid (right_no11 hb); clear hb
    go_wp2_with fail
    go_ret
    exact ⟨by rw [HX.out]; rfl, hB0⟩
  have H11 := Lib.hid hb; clear hb
  by_cases hc : (P.recover : Int) ≤ 4294967296
  rotate_left
  · have HX := Lib.hid (right_no12 hc)
    have k12 := hc
    clear hc
    go_wp2_with fail
    go_ret
    exact ⟨by rw [HX.out]; rfl, hB0⟩
  have H12 := Lib.hid hc
  have k12 := hc
  clear hc
  go_wp2_with fail
  refine (rwide_any _ _ _ _).mono ?_
  rintro e w1 ⟨rfl, rfl⟩
  cases hb : inI (P.scoreCap : Int) 1 72057594037927936
  · have HX := Lib.hid (right_no13 hb); clear hb
    go_wp2_with fail
    go_ret
    exact ⟨by rw [HX.out]; rfl, hB0⟩
  have H13 := Lib.hid hb; clear hb
  by_cases hc : (P.rate : Int) ≤ 4294967296
  rotate_left
  · have HX := Lib.hid (right_no14 hc)
    have k14 := hc
    clear hc
    go_wp2_with fail
    go_ret
    exact ⟨by rw [HX.out]; rfl, hB0⟩
  have H14 := Lib.hid hc
  have k14 := hc
  clear hc
  by_cases hc : (P.bond : Int) ≤ 1099511627776
  rotate_left
  · have HX := Lib.hid (right_no15 hc)
    have k15 := hc
    clear hc
    go_wp2_with fail
    go_ret
    exact ⟨by rw [HX.out]; rfl, hB0⟩
  have H15 := Lib.hid hc
  have k15 := hc
  clear hc
  go_wp2_with fail
  refine (rin_any _ _ _ _).mono ?_
  rintro e w1 ⟨rfl, rfl⟩
  cases hb : inI P.delay 0 1000
  · have HX := Lib.hid (right_no16 hb); clear hb
    go_wp2_with fail
    go_ret
    exact ⟨by rw [HX.out]; rfl, hB0⟩
  have H16 := Lib.hid hb; clear hb
  go_wp2_with fail
  refine (rin_any _ _ _ _).mono ?_
  rintro e w1 ⟨rfl, rfl⟩
  cases hb : inI P.wait 0 50
  · have HX := Lib.hid (right_no17 hb); clear hb
    go_wp2_with fail
    go_ret
    exact ⟨by rw [HX.out]; rfl, hB0⟩
  have H17 := Lib.hid hb; clear hb
  go_wp2_with fail
  refine (rin_any _ _ _ _).mono ?_
  rintro e w1 ⟨rfl, rfl⟩
  cases hb : inI P.enact 0 1000
  · have HX := Lib.hid (right_no18 hb); clear hb
    go_wp2_with fail
    go_ret
    exact ⟨by rw [HX.out]; rfl, hB0⟩
  have H18 := Lib.hid hb; clear hb
  go_wp2_with fail
  refine (rin_any _ _ _ _).mono ?_
  rintro e w1 ⟨rfl, rfl⟩
  cases hb : inI P.poll 1 1000
  · have HX := Lib.hid (right_no19 hb); clear hb
    go_wp2_with fail
    go_ret
    exact ⟨by rw [HX.out]; rfl, hB0⟩
  have H19 := Lib.hid hb; clear hb
  go_wp2_with fail
  refine (rin_any _ _ _ _).mono ?_
  rintro e w1 ⟨rfl, rfl⟩
  cases hb : inI P.streak 0 64
  · have HX := Lib.hid (right_no20 hb); clear hb
    go_wp2_with fail
    go_ret
    exact ⟨by rw [HX.out]; rfl, hB0⟩
  have H20 := Lib.hid hb; clear hb
  go_wp2_with fail
  refine (rin_any _ _ _ _).mono ?_
  rintro e w1 ⟨rfl, rfl⟩
  cases hb : inI P.boost 0 1000
  · have HX := Lib.hid (right_no21 hb); clear hb
    go_wp2_with fail
    go_ret
    exact ⟨by rw [HX.out]; rfl, hB0⟩
  have H21 := Lib.hid hb; clear hb
  go_wp2_with fail
  refine (rin_any _ _ _ _).mono ?_
  rintro e w1 ⟨rfl, rfl⟩
  cases hb : inI P.absent 0 10000
  · have HX := Lib.hid (right_no22 hb); clear hb
    go_wp2_with fail
    go_ret
    exact ⟨by rw [HX.out]; rfl, hB0⟩
  have H22 := Lib.hid hb; clear hb
  go_wp2_with fail
  refine (rin_any _ _ _ _).mono ?_
  rintro e w1 ⟨rfl, rfl⟩
  cases hb : inI P.burn 0 10000
  · have HX := Lib.hid (right_no23 hb); clear hb
    go_wp2_with fail
    go_ret
    exact ⟨by rw [HX.out]; rfl, hB0⟩
  have H23 := Lib.hid hb; clear hb
  go_wp2_with fail
  refine (rin_any _ _ _ _).mono ?_
  rintro e w1 ⟨rfl, rfl⟩
  cases hb : inI P.quorum 0 10000
  · have HX := Lib.hid (right_no24 hb); clear hb
    go_wp2_with fail
    go_ret
    exact ⟨by rw [HX.out]; rfl, hB0⟩
  have H24 := Lib.hid hb; clear hb
  go_wp2_with fail
  refine (rin_any _ _ _ _).mono ?_
  rintro e w1 ⟨rfl, rfl⟩
  cases hb : inI P.churn 1 64
  · have HX := Lib.hid (right_no25 hb); clear hb
    go_wp2_with fail
    go_ret
    exact ⟨by rw [HX.out]; rfl, hB0⟩
  have H25 := Lib.hid hb; clear hb
  have hs : Hid (stakesB P = true) := Lib.hid (by simp [stakesB, stakesL, H0.out, H1.out, H2.out, H3.out, H4.out, H5.out, H6.out, H7.out])
  have hsc : Hid (scoresB P = true) := Lib.hid (by simp [scoresB, scoresL, H8.out, H9.out, H10.out, H11.out, H12.out, H13.out])
  have ho : Hid (othersB P = true) := Lib.hid (by simp [othersB, othersL, H14.out, H15.out, H16.out, H17.out, H18.out, H19.out, H20.out, H21.out, H22.out, H23.out, H24.out, H25.out])
  have hLk := Lib.hid (leakOk_of hs.out hsc.out)
  have hl := leakT_le P
  have hbs := (scores_facts hsc.out).2.1
  clear hc0
  go_wp2_with fail
  refine (ticks_any P hLk.out _).mono ?_
  rintro e w1 ⟨rfl, hb1⟩
  have s1 := (row_below hb1 (row_lt r1)).trans r1
  have hc0 : ∀ i, w1.cell? ⟨w.heap.size, i, none⟩ = P.cells[i]? := fun i => row_cell s1 i
  have hB1 := Below.then hB0 hb1
  clear r1 s1
  by_cases h1 : (leakT P : Int) ≤ 1048576
  · obtain ⟨B, hB⟩ : ∃ B, B = P.bias * leakT P := ⟨_, rfl⟩
    have hBl : B ≤ 4294967296 * 1048577 := by rw [hB]; exact Nat.mul_le_mul hbs hl.2
    have G1 : IntKind.u64.wrap ((P.bias : Int) * ((leakT P : Nat) : Int)) = (B : Int) := by rw [← Int.natCast_mul, ← hB]; exact Bits.wrapN _ (by omega)
    by_cases h2 : B ≤ P.scoreCap
    · have HR : Hid (rightB P = true) := Lib.hid (by have e1 : leakT P ≤ 1048576 := by omega
                                                     rw [hB] at h2; simp [rightB, hs.out, hsc.out, ho.out, e1, h2])
      clear hB
      go_wp2_with fail
      go_ret
      exact ⟨by rw [HR.out]; rfl, hB1⟩
    · have HR : Hid (rightB P = false) := Lib.hid (by rw [hB] at h2; simp [rightB, h2])
      clear hB
      go_wp2_with fail
      go_ret
      exact ⟨by rw [HR.out]; rfl, hB1⟩
  · have HR : Hid (rightB P = false) := Lib.hid (by have e1 : ¬ leakT P ≤ 1048576 := by omega
                                                    simp [rightB, e1])
    go_wp2_with fail
    go_ret
    exact ⟨by rw [HR.out]; rfl, hB1⟩
end Go.Proofs.Ytnakkjgnjffkpaa
