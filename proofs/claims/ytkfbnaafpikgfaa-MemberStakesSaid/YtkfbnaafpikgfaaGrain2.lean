/-
  What grain.Fits and grain.Clamp answer, and bullionref10's functions.
-/
import Derived.Test.YtkfbnaafpikgfaaGrain
import Derived.Test.YtkfbnaafpikgfaaLaw07a
namespace Go.Proofs.Ytkfbnaafpikgfaa
open Go.RowKit
set_option linter.unusedVariables false

theorem u64_bool_eq {m : Nat} (h : m = 0) : ((m : Int) == 0) = true := by subst h; rfl
theorem u64_bool_ne {m : Nat} (h : ¬ m = 0) : ((m : Int) == 0) = false := beq_eq_false_iff_ne.2 (by omega)
set_option maxHeartbeats 2000000 in
theorem gfits_any (P : Par) (eff b : Nat) (he : eff < 18446744073709551616) (hb : b < 18446744073709551616) (w : World) : Calls Try.prog 90 #[.agg P.cells, .int .u64 eff, .int .u64 b] w fun e w' => e = .returned (.bool (fitsV P eff b)) ∧ Below w.heap.size w w' := by
  have r0 : row (w.alloc (.cells P.cells 24)) w.heap.size = some P.cells := (by (repeat (first | assumption | (refine row_at _ _ _ _ ?_; first | rfl | (simp only [World.size_alloc]; done) | (simp only [World.size_alloc]; omega)) | (refine (row_past _ _ _ ?_).trans ?_; (focus (first | exact Nat.lt_succ_self _ | ((repeat rw [World.size_alloc]); omega) | (simp; done) | (simp; omega) | omega))) | rw [row_drewN] | rw [row_drew])); (first | done | fail))
  have hB0 : Below w.heap.size w (w.alloc (.cells P.cells 24)) := (by (repeat (first | exact Below.refl _ _ | assumption | (refine Below.allocT ?_ _) | refine Below.drew ?_ | refine below_drewN ?_ _ | (refine Below.then ?_ (by assumption)) | (refine Below.setRow ?_ ?_ _; rotate_left; (focus (first | exact Nat.lt_succ_self _ | ((repeat rw [World.size_alloc]); omega) | (simp; done) | (simp; omega) | omega))) | (refine Below.setCell ?_ ?_ _; rotate_left; (focus (first | exact Nat.lt_succ_self _ | ((repeat rw [World.size_alloc]); omega) | (simp; done) | (simp; omega) | omega))) | (refine Below.then' ?_ (by assumption) ?_; rotate_left; (focus (first | exact Nat.lt_succ_self _ | ((repeat rw [World.size_alloc]); omega) | (simp; done) | (simp; omega) | omega))) | fail)); (first | done | fail))
  have HS := Lib.hid (fun W => scaled_any P W)
  cases hr : rightB P
  · have HV : Hid (fitsV P eff b = false) := Lib.hid (by simp [fitsV, hr])
    rw [hr] at HS
    clear hr
    go_enter Try.func90, Try.ntmps90
    go_wp2_with fail
    generalize w.alloc (.cells P.cells 24) = W at *
    refine (HS.out _).mono ?_
    rintro e w1 ⟨rfl, hb1⟩
    have hB1 := Below.then hB0 hb1
    go_wp2_with fail
    go_ret
    exact ⟨by rw [HV.out]; rfl, (by (repeat (first | exact Below.refl _ _ | assumption | (refine Below.allocT ?_ _) | refine Below.drew ?_ | refine below_drewN ?_ _ | (refine Below.then ?_ (by assumption)) | (refine Below.setRow ?_ ?_ _; rotate_left; (focus (first | exact Nat.lt_succ_self _ | ((repeat rw [World.size_alloc]); omega) | (simp; done) | (simp; omega) | omega))) | (refine Below.setCell ?_ ?_ _; rotate_left; (focus (first | exact Nat.lt_succ_self _ | ((repeat rw [World.size_alloc]); omega) | (simp; done) | (simp; omega) | omega))) | (refine Below.then' ?_ (by assumption) ?_; rotate_left; (focus (first | exact Nat.lt_succ_self _ | ((repeat rw [World.size_alloc]); omega) | (simp; done) | (simp; omega) | omega))) | fail)); (first | done | fail))⟩
  · have hinc := right_inc hr
    have HW := Lib.hid (fun W => next_any P eff b he hb hinc.1 hinc.2.1 hinc.2.2.1 W)
    have HV : Hid (fitsV P eff b = fitsB P eff b) := Lib.hid (by simp [fitsV, hr])
    have i1 : ((P.inc : Int) == 0) = false := by simp; omega
    have i2 : 0 < (P.inc : Int) := by omega
    rw [hr] at HS
    clear hr hinc
    obtain ⟨m, hm⟩ : ∃ m, m = eff % P.inc := ⟨_, rfl⟩
    have E1 : (eff : Int) % (P.inc : Int) = (m : Int) := by rw [hm, Int.natCast_emod]
    have HB : Hid (fitsB P eff b = (decide (P.inc ≤ eff) && (decide (eff ≤ P.maxEff) && (decide (m = 0) && decide (nextN P eff b = eff))))) := Lib.hid (by rw [hm]; rfl)
    clear hm
    generalize nextN P eff b = n at *
    by_cases h1 : P.inc ≤ eff
    all_goals by_cases h2 : eff ≤ P.maxEff
    all_goals by_cases h3 : m = 0
    all_goals by_cases h4 : n = eff
    all_goals
      have HF : Hid (fitsV P eff b = (decide (P.inc ≤ eff) && (decide (eff ≤ P.maxEff) && (decide (m = 0) && decide (n = eff))))) := Lib.hid (HV.out.trans HB.out)
      have HX := HF.out
      simp only [h1, h2, h3, h4, decide_true, decide_false, Bool.and_true, Bool.and_false] at HX
      have HY := Lib.hid HX
      clear HX HF
      first | have k3 := u64_bool_eq h3 | have k3 := u64_bool_ne h3
      clear h3
      first | subst h4 | (have k4 : ((n : Int) == (eff : Int)) = false := beq_eq_false_iff_ne.2 (by omega); clear h4)
      go_enter Try.func90, Try.ntmps90
      go_wp2_with fail
      generalize w.alloc (.cells P.cells 24) = W at *
      refine (HS.out _).mono ?_
      rintro e w1 ⟨rfl, hb1⟩
      have hB1 := Below.then hB0 hb1
      clear hB0 hb1 r0
      go_wp2_with fail
      first
        | (go_ret; exact ⟨by rw [HY.out]; rfl, (by (repeat (first | exact Below.refl _ _ | assumption | (refine Below.allocT ?_ _) | refine Below.drew ?_ | refine below_drewN ?_ _ | (refine Below.then ?_ (by assumption)) | (refine Below.setRow ?_ ?_ _; rotate_left; (focus (first | exact Nat.lt_succ_self _ | ((repeat rw [World.size_alloc]); omega) | (simp; done) | (simp; omega) | omega))) | (refine Below.setCell ?_ ?_ _; rotate_left; (focus (first | exact Nat.lt_succ_self _ | ((repeat rw [World.size_alloc]); omega) | (simp; done) | (simp; omega) | omega))) | (refine Below.then' ?_ (by assumption) ?_; rotate_left; (focus (first | exact Nat.lt_succ_self _ | ((repeat rw [World.size_alloc]); omega) | (simp; done) | (simp; omega) | omega))) | fail)); (first | done | fail))⟩)
        | (refine (HW.out _).mono ?_; rintro e w2 ⟨rfl, hb2⟩; go_wp2_with fail; go_ret; exact ⟨by rw [HY.out]; rfl, (by (repeat (first | exact Below.refl _ _ | assumption | (refine Below.allocT ?_ _) | refine Below.drew ?_ | refine below_drewN ?_ _ | (refine Below.then ?_ (by assumption)) | (refine Below.setRow ?_ ?_ _; rotate_left; (focus (first | exact Nat.lt_succ_self _ | ((repeat rw [World.size_alloc]); omega) | (simp; done) | (simp; omega) | omega))) | (refine Below.setCell ?_ ?_ _; rotate_left; (focus (first | exact Nat.lt_succ_self _ | ((repeat rw [World.size_alloc]); omega) | (simp; done) | (simp; omega) | omega))) | (refine Below.then' ?_ (by assumption) ?_; rotate_left; (focus (first | exact Nat.lt_succ_self _ | ((repeat rw [World.size_alloc]); omega) | (simp; done) | (simp; omega) | omega))) | fail)); (first | done | fail))⟩)
        | fail
end Go.Proofs.Ytkfbnaafpikgfaa
