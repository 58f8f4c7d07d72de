/-
  What grain.Fits and grain.Clamp answer, and bullionref10's functions.
-/
import Derived.Test.YtncobbhhjkdllaaGrain
import Derived.Test.YtncobbhhjkdllaaLaw07a
namespace Go.Proofs.Ytncobbhhjkdllaa
open Go.RowKit
set_option linter.unusedVariables false

theorem u64_bool_eq {m : Nat} (h : m = 0) : ((m : Int) == 0) = true := by subst h; rfl
theorem u64_bool_ne {m : Nat} (h : ¬ m = 0) : ((m : Int) == 0) = false := beq_eq_false_iff_ne.2 (by omega)
set_option maxHeartbeats 2000000 in
theorem gfits_any (P : Par) (eff b : Nat) (he : eff < 18446744073709551616) (hb : b < 18446744073709551616) (w : World) : Calls Try.prog 18 #[.agg P.cells, .int .u64 eff, .int .u64 b] w fun e w' => e = .returned (.bool (fitsV P eff b)) ∧ Below w.heap.size w w' := by
  have r0 : row (w.alloc (.cells P.cells 24)) w.heap.size = some P.cells := (by (repeat (first | assumption | (refine row_at _ _ _ _ ?_; first | rfl | (simp only [World.size_alloc]; done) | (simp only [World.size_alloc]; omega)) | (refine (row_past _ _ _ ?_).trans ?_; (focus (first | exact Nat.lt_succ_self _ | ((repeat rw [World.size_alloc]); omega) | (simp; done) | (simp; omega) | omega))) | rw [row_drewN] | rw [row_drew])); (first | done | fail))
  have hB0 : Below w.heap.size w (w.alloc (.cells P.cells 24)) := (by (repeat (first | exact Below.refl _ _ | assumption | (refine Below.allocT ?_ _) | refine Below.drew ?_ | refine below_drewN ?_ _ | (refine Below.then ?_ (by assumption)) | (refine Below.setRow ?_ ?_ _; rotate_left; (focus (first | exact Nat.lt_succ_self _ | ((repeat rw [World.size_alloc]); omega) | (simp; done) | (simp; omega) | omega))) | (refine Below.setCell ?_ ?_ _; rotate_left; (focus (first | exact Nat.lt_succ_self _ | ((repeat rw [World.size_alloc]); omega) | (simp; done) | (simp; omega) | omega))) | (refine Below.then' ?_ (by assumption) ?_; rotate_left; (focus (first | exact Nat.lt_succ_self _ | ((repeat rw [World.size_alloc]); omega) | (simp; done) | (simp; omega) | omega))) | fail)); (first | done | fail))
  have HS := Lib.hid (fun W => scaled_any P W)
  cases hr : rightB P
  · have HV : Hid (fitsV P eff b = false) := Lib.hid (by simp [fitsV, hr])
    rw [hr] at HS
    clear hr
    go_enter Try.func18, Try.ntmps18
    go_wp2_with fail
    generalize w.alloc (.cells P.cells 24) = W at *
    refine (HS.out _).mono ?_
    rintro e w1 ⟨rfl, hb1⟩
    have hB1 := Below.then hB0 hb1
    go_wp2_with fail
    go_ret
    exact ⟨by rw [HV.out]; rfl, (by (repeat (first | exact Below.refl _ _ | assumption | (refine Below.allocT ?_ _) | refine Below.drew ?_ | refine below_drewN ?_ _ | (refine Below.then ?_ (by assumption)) | (refine Below.setRow ?_ ?_ _; rotate_left; (focus (first | exact Nat.lt_succ_self _ | ((repeat rw [World.size_alloc]); omega) | (simp; done) | (simp; omega) | omega))) | (refine Below.setCell ?_ ?_ _; rotate_left; (focus (first | exact Nat.lt_succ_self _ | ((repeat rw [World.size_alloc]); omega) | (simp; done) | (simp; omega) | omega))) | (refine Below.then' ?_ (by assumption) ?_; rotate_left; (focus (first | exact Nat.lt_succ_self _ | ((repeat rw [World.size_alloc]); omega) | (simp; done) | (simp; omega) | omega))) | fail)); (first | done | fail))⟩
  · have hinc := right_inc hr
    have HW := Lib.hid (fun W => next_any P eff b he hb hinc.1 hinc.2.1 hinc.2.2.1 W)
    have HV : Hid (fitsV P eff b = fitsB P eff b) := Lib.hid (by simp [fitsV, hr])
    have i1 : ((P.inc : Int) == 0) = false := by simp; omega
    have i2 : 0 < (P.inc : Int) := by omega
    rw [hr] at HS
    clear hr hinc
    obtain ⟨m, hm⟩ : ∃ m, m = eff % P.inc := ⟨_, rfl⟩
    have E1 : (eff : Int) % (P.inc : Int) = (m : Int) := by rw [hm, Int.natCast_emod]
    have HB : Hid (fitsB P eff b = (decide (P.inc ≤ eff) && (decide (eff ≤ P.maxEff) && (decide (m = 0) && decide (nextN P eff b = eff))))) := Lib.hid (by rw [hm]; rfl)
    clear hm
    generalize nextN P eff b = n at *
    by_cases h1 : P.inc ≤ eff
    all_goals by_cases h2 : eff ≤ P.maxEff
    all_goals by_cases h3 : m = 0
    all_goals by_cases h4 : n = eff
    all_goals
      have HF : Hid (fitsV P eff b = (decide (P.inc ≤ eff) && (decide (eff ≤ P.maxEff) && (decide (m = 0) && decide (n = eff))))) := Lib.hid (HV.out.trans HB.out)
      have HX := HF.out
      simp only [h1, h2, h3, h4, decide_true, decide_false, Bool.and_true, Bool.and_false] at HX
      have HY := Lib.hid HX
      clear HX HF
      first | have k3 := u64_bool_eq h3 | have k3 := u64_bool_ne h3
      clear h3
      first | subst h4 | (have k4 : ((n : Int) == (eff : Int)) = false := beq_eq_false_iff_ne.2 (by omega); clear h4)
      go_enter Try.func18, Try.ntmps18
      go_wp2_with fail
      generalize w.alloc (.cells P.cells 24) = W at *
      refine (HS.out _).mono ?_
      rintro e w1 ⟨rfl, hb1⟩
      have hB1 := Below.then hB0 hb1
      clear hB0 hb1 r0
      go_wp2_with fail
      first
        | (go_ret; exact ⟨by rw [HY.out]; rfl, (by (repeat (first | exact Below.refl _ _ | assumption | (refine Below.allocT ?_ _) | refine Below.drew ?_ | refine below_drewN ?_ _ | (refine Below.then ?_ (by assumption)) | (refine Below.setRow ?_ ?_ _; rotate_left; (focus (first | exact Nat.lt_succ_self _ | ((repeat rw [World.size_alloc]); omega) | (simp; done) | (simp; omega) | omega))) | (refine Below.setCell ?_ ?_ _; rotate_left; (focus (first | exact Nat.lt_succ_self _ | ((repeat rw [World.size_alloc]); omega) | (simp; done) | (simp; omega) | omega))) | (refine Below.then' ?_ (by assumption) ?_; rotate_left; (focus (first | exact Nat.lt_succ_self _ | ((repeat rw [World.size_alloc]); omega) | (simp; done) | (simp; omega) | omega))) | fail)); (first | done | fail))⟩)
        | (refine (HW.out _).mono ?_; rintro e w2 ⟨rfl, hb2⟩; go_wp2_with fail; go_ret; exact ⟨by rw [HY.out]; rfl, (by (repeat (first | exact Below.refl _ _ | assumption | (refine Below.allocT ?_ _) | refine Below.drew ?_ | refine below_drewN ?_ _ | (refine Below.then ?_ (by assumption)) | (refine Below.setRow ?_ ?_ _; rotate_left; (focus (first | exact Nat.lt_succ_self _ | ((repeat rw [World.size_alloc]); omega) | (simp; done) | (simp; omega) | omega))) | (refine Below.setCell ?_ ?_ _; rotate_left; (focus (first | exact Nat.lt_succ_self _ | ((repeat rw [World.size_alloc]); omega) | (simp; done) | (simp; omega) | omega))) | (refine Below.then' ?_ (by assumption) ?_; rotate_left; (focus (first | exact Nat.lt_succ_self _ | ((repeat rw [World.size_alloc]); omega) | (simp; done) | (simp; omega) | omega))) | fail)); (first | done | fail))⟩)
        | fail
set_option maxHeartbeats 1000000 in
theorem clamp_any (P : Par) (b : Nat) (hb : b < 18446744073709551616) (w : World) : Calls Try.prog 20 #[.agg P.cells, .int .u64 b] w fun e w' => e = .returned (.tuple #[.int .u64 ((keptV P b : Nat) : Int), .int .u64 ((b - keptV P b : Nat) : Int)]) ∧ Below w.heap.size w w' := by
  have r0 : row (w.alloc (.cells P.cells 24)) w.heap.size = some P.cells := (by (repeat (first | assumption | (refine row_at _ _ _ _ ?_; first | rfl | (simp only [World.size_alloc]; done) | (simp only [World.size_alloc]; omega)) | (refine (row_past _ _ _ ?_).trans ?_; (focus (first | exact Nat.lt_succ_self _ | ((repeat rw [World.size_alloc]); omega) | (simp; done) | (simp; omega) | omega))) | rw [row_drewN] | rw [row_drew])); (first | done | fail))
  have hB0 : Below w.heap.size w (w.alloc (.cells P.cells 24)) := (by (repeat (first | exact Below.refl _ _ | assumption | (refine Below.allocT ?_ _) | refine Below.drew ?_ | refine below_drewN ?_ _ | (refine Below.then ?_ (by assumption)) | (refine Below.setRow ?_ ?_ _; rotate_left; (focus (first | exact Nat.lt_succ_self _ | ((repeat rw [World.size_alloc]); omega) | (simp; done) | (simp; omega) | omega))) | (refine Below.setCell ?_ ?_ _; rotate_left; (focus (first | exact Nat.lt_succ_self _ | ((repeat rw [World.size_alloc]); omega) | (simp; done) | (simp; omega) | omega))) | (refine Below.then' ?_ (by assumption) ?_; rotate_left; (focus (first | exact Nat.lt_succ_self _ | ((repeat rw [World.size_alloc]); omega) | (simp; done) | (simp; omega) | omega))) | fail)); (first | done | fail))
  have HS := Lib.hid (fun W => scaled_any P W)
  cases hr : rightB P
  · have HV : Hid (keptV P b = 0) := Lib.hid (by simp [keptV, hr])
    rw [hr] at HS
    clear hr
    go_enter Try.func20, Try.ntmps20
    go_wp2_with fail
    generalize w.alloc (.cells P.cells 24) = W at *
    refine (HS.out _).mono ?_
    rintro e w1 ⟨rfl, hb1⟩
    have hB1 := Below.then hB0 hb1
    go_wp2_with fail
    go_ret2
    exact ⟨by rw [HV.out]; rfl, (by (repeat (first | exact Below.refl _ _ | assumption | (refine Below.allocT ?_ _) | refine Below.drew ?_ | refine below_drewN ?_ _ | (refine Below.then ?_ (by assumption)) | (refine Below.setRow ?_ ?_ _; rotate_left; (focus (first | exact Nat.lt_succ_self _ | ((repeat rw [World.size_alloc]); omega) | (simp; done) | (simp; omega) | omega))) | (refine Below.setCell ?_ ?_ _; rotate_left; (focus (first | exact Nat.lt_succ_self _ | ((repeat rw [World.size_alloc]); omega) | (simp; done) | (simp; omega) | omega))) | (refine Below.then' ?_ (by assumption) ?_; rotate_left; (focus (first | exact Nat.lt_succ_self _ | ((repeat rw [World.size_alloc]); omega) | (simp; done) | (simp; omega) | omega))) | fail)); (first | done | fail))⟩
  · have HV : Hid (keptV P b = min b P.cap) := Lib.hid (by simp [keptV, hr])
    have hcap := (right_inc hr).2.2.2.2.2
    have HT := Lib.hid (fun W => take_any b P.cap hb (by omega) W)
    rw [hr] at HS
    clear hr
    go_enter Try.func20, Try.ntmps20
    go_wp2_with fail
    generalize w.alloc (.cells P.cells 24) = W at *
    refine (HS.out _).mono ?_
    rintro e w1 ⟨rfl, hb1⟩
    have hB1 := Below.then hB0 hb1
    clear hB0 hb1 r0
    go_wp2_with fail
    refine (HT.out _).mono ?_
    rintro e w2 ⟨rfl, rfl⟩
    go_wp2_with fail
    go_ret2
    exact ⟨by rw [HV.out]; rfl, (by (repeat (first | exact Below.refl _ _ | assumption | (refine Below.allocT ?_ _) | refine Below.drew ?_ | refine below_drewN ?_ _ | (refine Below.then ?_ (by assumption)) | (refine Below.setRow ?_ ?_ _; rotate_left; (focus (first | exact Nat.lt_succ_self _ | ((repeat rw [World.size_alloc]); omega) | (simp; done) | (simp; omega) | omega))) | (refine Below.setCell ?_ ?_ _; rotate_left; (focus (first | exact Nat.lt_succ_self _ | ((repeat rw [World.size_alloc]); omega) | (simp; done) | (simp; omega) | omega))) | (refine Below.then' ?_ (by assumption) ?_; rotate_left; (focus (first | exact Nat.lt_succ_self _ | ((repeat rw [World.size_alloc]); omega) | (simp; done) | (simp; omega) | omega))) | fail)); (first | done | fail))⟩
theorem rbelow_any (a b c : Nat) (hcc : c < 18446744073709551616) (w : World) : Calls Try.prog 50 #[.int .u64 a, .int .u64 b, .int .u64 c] w fun e w' => e = .returned (.bool (decide (a + b < c))) ∧ w = w' := by
  by_cases h1 : a < c
  · by_cases h2 : (b : Int) < (c : Int) - (a : Int)
    all_goals
      have HX := Lib.hid h2
      go_enter Try.func50, Try.ntmps50
      go_wp2
      go_ret
      exact ⟨ret_bool (by have := HX.out; rw [Bool.eq_iff_iff]; simp; omega), rfl⟩
  · go_enter Try.func50, Try.ntmps50
    go_wp2
    go_ret
    exact ⟨ret_bool (by rw [Bool.eq_iff_iff]; simp; omega), rfl⟩
set_option maxHeartbeats 1000000 in
theorem rwhole_any (P : Par) (b : Nat) (hb : b < 18446744073709551616) (h0 : 1 ≤ P.inc) (w : World) : Calls Try.prog 21 #[.agg P.cells, .int .u64 b] w fun e w' => e = .returned (.int .u64 ((wholeN P b : Nat) : Int)) ∧ Below w.heap.size w w' := by
  have r0 : row (w.alloc (.cells P.cells 30)) w.heap.size = some P.cells := (by (repeat (first | assumption | (refine row_at _ _ _ _ ?_; first | rfl | (simp only [World.size_alloc]; done) | (simp only [World.size_alloc]; omega)) | (refine (row_past _ _ _ ?_).trans ?_; (focus (first | exact Nat.lt_succ_self _ | ((repeat rw [World.size_alloc]); omega) | (simp; done) | (simp; omega) | omega))) | rw [row_drewN] | rw [row_drew])); (first | done | fail))
  have hB0 : Below w.heap.size w (w.alloc (.cells P.cells 30)) := (by (repeat (first | exact Below.refl _ _ | assumption | (refine Below.allocT ?_ _) | refine Below.drew ?_ | refine below_drewN ?_ _ | (refine Below.then ?_ (by assumption)) | (refine Below.setRow ?_ ?_ _; rotate_left; (focus (first | exact Nat.lt_succ_self _ | ((repeat rw [World.size_alloc]); omega) | (simp; done) | (simp; omega) | omega))) | (refine Below.setCell ?_ ?_ _; rotate_left; (focus (first | exact Nat.lt_succ_self _ | ((repeat rw [World.size_alloc]); omega) | (simp; done) | (simp; omega) | omega))) | (refine Below.then' ?_ (by assumption) ?_; rotate_left; (focus (first | exact Nat.lt_succ_self _ | ((repeat rw [World.size_alloc]); omega) | (simp; done) | (simp; omega) | omega))) | fail)); (first | done | fail))
  have i1 : ((P.inc : Int) == 0) = false := by simp; omega
  have i2 : 0 < (P.inc : Int) := by omega
  obtain ⟨q, hq⟩ : ∃ q, q = b / P.inc := ⟨_, rfl⟩
  have E1 : (b : Int) / (P.inc : Int) = (q : Int) := by rw [hq, Int.natCast_ediv]
  obtain ⟨d, hd⟩ : ∃ d, d = q * P.inc := ⟨_, rfl⟩
  have hdd : d = b - b % P.inc := by
    have := Nat.div_add_mod b P.inc
    rw [hd, hq, Nat.mul_comm]; omega
  have E2 : IntKind.u64.wrap ((q : Int) * (P.inc : Int)) = (d : Int) := by rw [← Int.natCast_mul, ← hd]; exact Bits.wrapN _ (by omega)
  have E3 : IntKind.u64.wrap (q : Int) = (q : Int) := by rw [hq]; exact Bits.wrapN _ (Nat.lt_of_le_of_lt (Nat.div_le_self _ _) hb)
  have HW : Hid (wholeN P b = min d P.maxEff) := Lib.hid (by rw [hdd]; rfl)
  clear hq hd hdd
  by_cases hlt : P.maxEff < d
  all_goals
    have HLT := Lib.hid hlt
    go_enter Try.func21, Try.ntmps21
    go_wp2_with fail
    generalize w.alloc (.cells P.cells 30) = W at *
    have hc : ∀ nq i, (W.drewN nq).cell? ⟨w.heap.size, i, none⟩ = P.cells[i]? := fun nq i => row_cell r0 i
    go_quiet (fail)
    go_wp2_with fail
    go_ret
    exact ⟨ret_int (by have := HLT.out; rw [HW.out]; omega), (by (repeat (first | exact Below.refl _ _ | assumption | (refine Below.allocT ?_ _) | refine Below.drew ?_ | refine below_drewN ?_ _ | (refine Below.then ?_ (by assumption)) | (refine Below.setRow ?_ ?_ _; rotate_left; (focus (first | exact Nat.lt_succ_self _ | ((repeat rw [World.size_alloc]); omega) | (simp; done) | (simp; omega) | omega))) | (refine Below.setCell ?_ ?_ _; rotate_left; (focus (first | exact Nat.lt_succ_self _ | ((repeat rw [World.size_alloc]); omega) | (simp; done) | (simp; omega) | omega))) | (refine Below.then' ?_ (by assumption) ?_; rotate_left; (focus (first | exact Nat.lt_succ_self _ | ((repeat rw [World.size_alloc]); omega) | (simp; done) | (simp; omega) | omega))) | fail)); (first | done | fail))⟩
set_option maxHeartbeats 1000000 in
theorem rnext_any (P : Par) (eff b : Nat) (he : eff < 18446744073709551616) (hb : b < 18446744073709551616) (h0 : 1 ≤ P.inc) (w : World) : Calls Try.prog 22 #[.agg P.cells, .int .u64 eff, .int .u64 b] w fun e w' => e = .returned (.int .u64 ((nextN P eff b : Nat) : Int)) ∧ Below w.heap.size w w' := by
  have r0 : row (w.alloc (.cells P.cells 30)) w.heap.size = some P.cells := (by (repeat (first | assumption | (refine row_at _ _ _ _ ?_; first | rfl | (simp only [World.size_alloc]; done) | (simp only [World.size_alloc]; omega)) | (refine (row_past _ _ _ ?_).trans ?_; (focus (first | exact Nat.lt_succ_self _ | ((repeat rw [World.size_alloc]); omega) | (simp; done) | (simp; omega) | omega))) | rw [row_drewN] | rw [row_drew])); (first | done | fail))
  have hB0 : Below w.heap.size w (w.alloc (.cells P.cells 30)) := (by (repeat (first | exact Below.refl _ _ | assumption | (refine Below.allocT ?_ _) | refine Below.drew ?_ | refine below_drewN ?_ _ | (refine Below.then ?_ (by assumption)) | (refine Below.setRow ?_ ?_ _; rotate_left; (focus (first | exact Nat.lt_succ_self _ | ((repeat rw [World.size_alloc]); omega) | (simp; done) | (simp; omega) | omega))) | (refine Below.setCell ?_ ?_ _; rotate_left; (focus (first | exact Nat.lt_succ_self _ | ((repeat rw [World.size_alloc]); omega) | (simp; done) | (simp; omega) | omega))) | (refine Below.then' ?_ (by assumption) ?_; rotate_left; (focus (first | exact Nat.lt_succ_self _ | ((repeat rw [World.size_alloc]); omega) | (simp; done) | (simp; omega) | omega))) | fail)); (first | done | fail))
  have H1 := Lib.hid (fun W => rbelow_any b P.down eff he W)
  have H2 := Lib.hid (fun W => rbelow_any eff P.up b hb W)
  have HW := Lib.hid (fun W => rwhole_any P b hb h0 W)
  have HN : Hid (nextN P eff b = if decide (b + P.down < eff) || decide (eff + P.up < b) then wholeN P b else eff) := Lib.hid rfl
  generalize decide (b + P.down < eff) = c1 at *
  generalize decide (eff + P.up < b) = c2 at *
  cases c1
  all_goals cases c2
  all_goals
    go_enter Try.func22, Try.ntmps22
    go_wp2_with fail
    generalize w.alloc (.cells P.cells 30) = W at *
    have hc : ∀ i, W.cell? ⟨w.heap.size, i, none⟩ = P.cells[i]? := fun i => row_cell r0 i
    refine (H1.out _).mono ?_
    rintro e w1 ⟨rfl, rfl⟩
    go_wp2_with fail
    first
      | (refine (H2.out _).mono ?_; rintro e w1 ⟨rfl, rfl⟩; go_wp2_with fail; go_ret; exact ⟨by rw [HN.out]; rfl, hB0⟩)
      | (refine (H2.out _).mono ?_; rintro e w1 ⟨rfl, rfl⟩; go_wp2_with fail; refine (HW.out _).mono ?_; rintro e w2 ⟨rfl, hb2⟩; go_wp2_with fail; go_ret; exact ⟨by rw [HN.out]; rfl, Below.then hB0 hb2⟩)
      | (refine (HW.out _).mono ?_; rintro e w2 ⟨rfl, hb2⟩; go_wp2_with fail; go_ret; exact ⟨by rw [HN.out]; rfl, Below.then hB0 hb2⟩)
      | fail
set_option maxHeartbeats 2000000 in
theorem rfits_any (P : Par) (eff b : Nat) (he : eff < 18446744073709551616) (hb : b < 18446744073709551616) (h0 : 1 ≤ P.inc) (w : World) : Calls Try.prog 23 #[.agg P.cells, .int .u64 eff, .int .u64 b] w fun e w' => e = .returned (.bool (fitsB P eff b)) ∧ Below w.heap.size w w' := by
  have r0 : row (w.alloc (.cells P.cells 30)) w.heap.size = some P.cells := (by (repeat (first | assumption | (refine row_at _ _ _ _ ?_; first | rfl | (simp only [World.size_alloc]; done) | (simp only [World.size_alloc]; omega)) | (refine (row_past _ _ _ ?_).trans ?_; (focus (first | exact Nat.lt_succ_self _ | ((repeat rw [World.size_alloc]); omega) | (simp; done) | (simp; omega) | omega))) | rw [row_drewN] | rw [row_drew])); (first | done | fail))
  have hB0 : Below w.heap.size w (w.alloc (.cells P.cells 30)) := (by (repeat (first | exact Below.refl _ _ | assumption | (refine Below.allocT ?_ _) | refine Below.drew ?_ | refine below_drewN ?_ _ | (refine Below.then ?_ (by assumption)) | (refine Below.setRow ?_ ?_ _; rotate_left; (focus (first | exact Nat.lt_succ_self _ | ((repeat rw [World.size_alloc]); omega) | (simp; done) | (simp; omega) | omega))) | (refine Below.setCell ?_ ?_ _; rotate_left; (focus (first | exact Nat.lt_succ_self _ | ((repeat rw [World.size_alloc]); omega) | (simp; done) | (simp; omega) | omega))) | (refine Below.then' ?_ (by assumption) ?_; rotate_left; (focus (first | exact Nat.lt_succ_self _ | ((repeat rw [World.size_alloc]); omega) | (simp; done) | (simp; omega) | omega))) | fail)); (first | done | fail))
  have HW := Lib.hid (fun W => rnext_any P eff b he hb h0 W)
  have i1 : ((P.inc : Int) == 0) = false := by simp; omega
  have i2 : 0 < (P.inc : Int) := by omega
  obtain ⟨m, hm⟩ : ∃ m, m = eff % P.inc := ⟨_, rfl⟩
  have E1 : (eff : Int) % (P.inc : Int) = (m : Int) := by rw [hm, Int.natCast_emod]
  have HB : Hid (fitsB P eff b = (decide (P.inc ≤ eff) && (decide (eff ≤ P.maxEff) && (decide (m = 0) && decide (nextN P eff b = eff))))) := Lib.hid (by rw [hm]; rfl)
  clear hm
  generalize nextN P eff b = n at *
  by_cases h1 : P.inc ≤ eff
  all_goals by_cases h2 : eff ≤ P.maxEff
  all_goals by_cases h3 : m = 0
  all_goals by_cases h4 : n = eff
  all_goals
    have HX := HB.out
    simp only [h1, h2, h3, h4, decide_true, decide_false, Bool.and_true, Bool.and_false] at HX
    have HY := Lib.hid HX
    clear HX
    first | have k3 := u64_bool_eq h3 | have k3 := u64_bool_ne h3
    clear h3
    first | subst h4 | (have k4 : ((n : Int) == (eff : Int)) = false := beq_eq_false_iff_ne.2 (by omega); clear h4)
    go_enter Try.func23, Try.ntmps23
    go_wp2_with fail
    generalize w.alloc (.cells P.cells 30) = W at *
    have hc : ∀ i, W.cell? ⟨w.heap.size, i, none⟩ = P.cells[i]? := fun i => row_cell r0 i
    first
      | (go_wp2_with fail; go_ret; exact ⟨by rw [HY.out]; rfl, hB0⟩)
      | (go_wp2_with fail; refine (HW.out _).mono ?_; rintro e w2 ⟨rfl, hb2⟩; go_wp2_with fail; go_ret; exact ⟨by rw [HY.out]; rfl, Below.then hB0 hb2⟩)
      | fail
end Go.Proofs.Ytncobbhhjkdllaa
