/-
  The walk of GrainNexts: it answers true whatever the arguments.
-/
import Derived.Test.YtncobbhhjkdllaaLaw10b
namespace Go.Proofs.Ytncobbhhjkdllaa
open Go.RowKit
set_option linter.unusedVariables false

set_option maxHeartbeats 8000000 in
set_option maxRecDepth 100000 in
theorem grainNexts_any (P : Par) (eff b : Nat) (he : eff < 18446744073709551616) (hb : b < 18446744073709551616) (w : World) :
    Calls Try.prog 5 #[.agg P.cells, .int .u64 eff, .int .u64 b] w fun e w' => e = .returned (.bool true) ∧ Below w.heap.size w w' := by
  have r0 : row (w.alloc (.cells P.cells 24)) w.heap.size = some P.cells := (by (repeat (first | assumption | (refine row_at _ _ _ _ ?_; first | rfl | (simp only [World.size_alloc]; done) | (simp only [World.size_alloc]; omega)) | (refine (row_past _ _ _ ?_).trans ?_; (focus (first | exact Nat.lt_succ_self _ | ((repeat rw [World.size_alloc]); omega) | (simp; done) | (simp; omega) | omega))) | rw [row_drewN] | rw [row_drew])); (first | done | fail))
  have hB0 : Below w.heap.size w (w.alloc (.cells P.cells 24)) := (by (repeat (first | exact Below.refl _ _ | assumption | (refine Below.allocT ?_ _) | refine Below.drew ?_ | refine below_drewN ?_ _ | (refine Below.then ?_ (by assumption)) | (refine Below.setRow ?_ ?_ _; rotate_left; (focus (first | exact Nat.lt_succ_self _ | ((repeat rw [World.size_alloc]); omega) | (simp; done) | (simp; omega) | omega))) | (refine Below.setCell ?_ ?_ _; rotate_left; (focus (first | exact Nat.lt_succ_self _ | ((repeat rw [World.size_alloc]); omega) | (simp; done) | (simp; omega) | omega))) | (refine Below.then' ?_ (by assumption) ?_; rotate_left; (focus (first | exact Nat.lt_succ_self _ | ((repeat rw [World.size_alloc]); omega) | (simp; done) | (simp; omega) | omega))) | fail)); (first | done | fail))
  have HC := Lib.hid (fun W => clamp_any P b hb W)
  have HR := Lib.hid (fun W => right_any P W)
  have HW := Lib.hid (fun W => gwhole_any P b hb W)
  have HN := Lib.hid (fun W => gnext_any P eff b he hb W)
  have HF := Lib.hid (fun W => gfits_any P eff b he hb W)
  cases hr : rightB P
  · rw [show keptV P b = 0 by simp [keptV, hr], show b - 0 = b from rfl] at HC
    rw [hr] at HR
    rw [show wholeV P b = 0 by simp [wholeV, hr]] at HW
    rw [show nextV P eff b = 0 by simp [nextV, hr]] at HN
    rw [show fitsV P eff b = false by simp [fitsV, hr]] at HF
    clear hr
    go_enter Try.func5, Try.ntmps5
    go_wp2_with fail
    generalize w.alloc (.cells P.cells 24) = W at *
    refine (awake10_any _).mono ?_
    rintro e w1 ⟨rfl, hb1⟩
    have r1 := (row_below hb1 (row_lt r0)).trans r0
    have hB1 := Below.then hB0 hb1
    clear r0 hB0 hb1
    go_wp2_with fail
    refine (HC.out _).mono ?_
    rintro e w2 ⟨rfl, hb2⟩
    have r2 := (row_below hb2 (row_lt r1)).trans r1
    have hB2 := Below.then hB1 hb2
    clear r1 hB1 hb2
    go_wp2_with fail
    refine (plain_any P _).mono ?_
    rintro e w3 ⟨rfl, hb3⟩
    have r3 : row (w3.alloc (.cells P.cells 30)) w.heap.size = some P.cells := (row_past _ _ _ (Nat.lt_of_lt_of_le (row_lt r2) hb3.size)).trans ((row_below hb3 (row_lt r2)).trans r2)
    have hB3 : Below w.heap.size w (w3.alloc (.cells P.cells 30)) := (by (repeat (first | exact Below.refl _ _ | assumption | (refine Below.allocT ?_ _) | refine Below.drew ?_ | refine below_drewN ?_ _ | (refine Below.then ?_ (by assumption)) | (refine Below.setRow ?_ ?_ _; rotate_left; (focus (first | exact Nat.lt_succ_self _ | ((repeat rw [World.size_alloc]); omega) | (simp; done) | (simp; omega) | omega))) | (refine Below.setCell ?_ ?_ _; rotate_left; (focus (first | exact Nat.lt_succ_self _ | ((repeat rw [World.size_alloc]); omega) | (simp; done) | (simp; omega) | omega))) | (refine Below.then' ?_ (by assumption) ?_; rotate_left; (focus (first | exact Nat.lt_succ_self _ | ((repeat rw [World.size_alloc]); omega) | (simp; done) | (simp; omega) | omega))) | fail)); (first | done | fail))
    clear r2 hB2 hb3
    go_wp2_with fail
    generalize w3.alloc (.cells P.cells 30) = V at *
    refine (HR.out _).mono ?_
    rintro e w4 ⟨rfl, hb4⟩
    have r4 := (row_below hb4 (row_lt r3)).trans r3
    have hB4 := Below.then hB3 hb4
    clear r3 hB3 hb4
    go_wp2_with fail
    refine (HW.out _).mono ?_
    rintro e w5 ⟨rfl, hb5⟩
    have r5 := (row_below hb5 (row_lt r4)).trans r4
    have hB5 := Below.then hB4 hb5
    clear r4 hB4 hb5
    go_wp2_with fail
    refine (HN.out _).mono ?_
    rintro e w6 ⟨rfl, hb6⟩
    have r6 := (row_below hb6 (row_lt r5)).trans r5
    have hB6 := Below.then hB5 hb6
    clear r5 hB5 hb6
    go_wp2_with fail
    refine (HF.out _).mono ?_
    rintro e w7 ⟨rfl, hb7⟩
    go_wp2_with fail
    go_ret
    exact ⟨rfl, Below.then hB6 hb7⟩
  · have hinc := (right_inc hr).1
    have hcap := (right_inc hr).2.2.2.2.2
    have HRW := Lib.hid (fun W => rwhole_any P b hb hinc W)
    have HRN := Lib.hid (fun W => rnext_any P eff b he hb hinc W)
    have HRF := Lib.hid (fun W => rfits_any P eff b he hb hinc W)
    rw [hr] at HR
    rw [show wholeV P b = wholeN P b by simp [wholeV, hr]] at HW
    rw [show nextV P eff b = nextN P eff b by simp [nextV, hr]] at HN
    rw [show fitsV P eff b = fitsB P eff b by simp [fitsV, hr]] at HF
    rw [show keptV P b = min b P.cap by simp [keptV, hr]] at HC
    clear hr hinc
    generalize wholeN P b = wv at *
    generalize nextN P eff b = nv at *
    have E0 : IntKind.u64.wrap ((b : Int) - (b : Int)) = ((0 : Nat) : Int) := by rw [Int.sub_self]; rfl
    obtain ⟨d, hd⟩ : ∃ d, d = b - P.cap := ⟨_, rfl⟩
    cases hfv : fitsB P eff b
    all_goals
      rw [hfv] at HF HRF
      by_cases hbc : b ≤ P.cap
      all_goals
        first
          | (rw [Nat.min_eq_left hbc, Nat.sub_self] at HC; have m1 : min (b : Int) (P.cap : Int) = (b : Int) := (by omega))
          | (rw [Nat.min_eq_right (show P.cap ≤ b by omega), ← hd] at HC; have m2 : min (b : Int) (P.cap : Int) = (P.cap : Int) := (by omega); have E1 : IntKind.u64.wrap ((b : Int) - (P.cap : Int)) = (d : Int) := by (rw [show (b : Int) - (P.cap : Int) = ((d : Nat) : Int) by omega]; exact Bits.wrapN _ (by omega)))
        have HD := Lib.hid hd
        clear hd hfv
        go_enter Try.func5, Try.ntmps5
        go_wp2_with fail
        generalize w.alloc (.cells P.cells 24) = W at *
        refine (awake10_any _).mono ?_
        rintro e w1 ⟨rfl, hb1⟩
        have r1 := (row_below hb1 (row_lt r0)).trans r0
        have hB1 := Below.then hB0 hb1
        clear r0 hB0 hb1
        go_wp2_with fail
        refine (HC.out _).mono ?_
        rintro e w2 ⟨rfl, hb2⟩
        have r2 := (row_below hb2 (row_lt r1)).trans r1
        have hB2 := Below.then hB1 hb2
        clear r1 hB1 hb2
        go_wp2_with fail
        refine (plain_any P _).mono ?_
        rintro e w3 ⟨rfl, hb3⟩
        have r3 : row (w3.alloc (.cells P.cells 30)) w.heap.size = some P.cells := (row_past _ _ _ (Nat.lt_of_lt_of_le (row_lt r2) hb3.size)).trans ((row_below hb3 (row_lt r2)).trans r2)
        have s3 : row (w3.alloc (.cells P.cells 30)) w3.heap.size = some P.cells := (by (repeat (first | assumption | (refine row_at _ _ _ _ ?_; first | rfl | (simp only [World.size_alloc]; done) | (simp only [World.size_alloc]; omega)) | (refine (row_past _ _ _ ?_).trans ?_; (focus (first | exact Nat.lt_succ_self _ | ((repeat rw [World.size_alloc]); omega) | (simp; done) | (simp; omega) | omega))) | rw [row_drewN] | rw [row_drew])); (first | done | fail))
        have hB3 : Below w.heap.size w (w3.alloc (.cells P.cells 30)) := (by (repeat (first | exact Below.refl _ _ | assumption | (refine Below.allocT ?_ _) | refine Below.drew ?_ | refine below_drewN ?_ _ | (refine Below.then ?_ (by assumption)) | (refine Below.setRow ?_ ?_ _; rotate_left; (focus (first | exact Nat.lt_succ_self _ | ((repeat rw [World.size_alloc]); omega) | (simp; done) | (simp; omega) | omega))) | (refine Below.setCell ?_ ?_ _; rotate_left; (focus (first | exact Nat.lt_succ_self _ | ((repeat rw [World.size_alloc]); omega) | (simp; done) | (simp; omega) | omega))) | (refine Below.then' ?_ (by assumption) ?_; rotate_left; (focus (first | exact Nat.lt_succ_self _ | ((repeat rw [World.size_alloc]); omega) | (simp; done) | (simp; omega) | omega))) | fail)); (first | done | fail))
        clear r2 hB2 hb3
        go_wp2_with fail
        generalize w3.alloc (.cells P.cells 30) = V at *
        refine (HR.out _).mono ?_
        rintro e w4 ⟨rfl, hb4⟩
        have r4 := (row_below hb4 (row_lt r3)).trans r3
        have s4 := (row_below hb4 (row_lt s3)).trans s3
        have hB4 := Below.then hB3 hb4
        clear r3 s3 hB3 hb4
        go_wp2_with fail
        have HM : Hid (∀ w', Below w4.heap.size w4 w' → row w' w.heap.size = some P.cells ∧ row w' w3.heap.size = some P.cells ∧ (∀ i, w'.cell? ⟨w3.heap.size, i, none⟩ = P.cells[i]?)) := Lib.hid fun w' h => ⟨(row_below h (row_lt r4)).trans r4, (row_below h (row_lt s4)).trans s4, fun i => row_cell ((row_below h (row_lt s4)).trans s4) i⟩
        clear r4 s4
        (refine wp_region_calm (by kernel_rfl) (by kernel_rfl) ?_; (repeat (first | go_big_quiet_skip | (go_big_quiet_want; apply calm_val; (focus (intro w' hb'; obtain ⟨c1, c2, c3⟩ := HM.out w' hb'; first | exact par_quiet rfl c1 rfl | exact rpar_quiet rfl c2 rfl | (unfold Oper.quietAt; go_simp; first | rfl | (go_at_call 19; exact calm_call hb' (HW.out _)) | (go_at_call 21; exact calm_call hb' (HRW.out _)) | (go_at_call 15; exact calm_call hb' (HN.out _)) | (go_at_call 22; exact calm_call hb' (HRN.out _)) | (go_at_call 18; exact calm_call hb' (HF.out _)) | (go_at_call 23; exact calm_call hb' (HRF.out _))))); (try simp only [Act.put, List.setIfInBounds_toArray, List.set_cons_zero, List.set_cons_succ]); go_big_quiet_on))); refine wpQuiet_nil ?_; intro w' hb')
        have hB5 := Below.then hB4 hb'
        clear HM hB4 hb'
        go_wp2_with fail
        go_ret
        exact ⟨rfl, hB5⟩
end Go.Proofs.Ytncobbhhjkdllaa
