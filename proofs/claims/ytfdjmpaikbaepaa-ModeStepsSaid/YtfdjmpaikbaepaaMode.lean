/-
  What mode.Step and mode.Of answer.
-/
import Derived.Test.YtfdjmpaikbaepaaPar
import Derived.Test.YtfdjmpaikbaepaaRatio
namespace Go.Proofs.Ytfdjmpaikbaepaa
open Go.RowKit

def stepN (calm : Int) (p a : Nat) : Int := if twoB p a then 0 else min (max calm 0) 1073741823 + 1
def modeOf (delay calm : Int) (em : Bool) : Int := if em then 4 else if delay < calm then 3 else if 0 < calm then 2 else 1
theorem step_any (P : Par) (calm : Int) (p a : Nat) (hc : -9223372036854775808 ≤ calm) (hc' : calm ≤ 9223372036854775807) (hp : p < 18446744073709551616) (ha : a < 18446744073709551616) (w : World) :
    Calls Try.prog 16 #[.agg P.cells, .int .i64 calm, .int .u64 p, .int .u64 a] w fun e w' => e = .returned (.tuple #[.int .i64 (stepN calm p a), .bool (twoB p a)]) ∧ Below w.heap.size w w' := by
  cases hb : twoB p a
  all_goals have HB := Lib.hid hb; clear hb
  · go_enter Try.func16, Try.ntmps16
    go_wp2_with fail
    refine (two_any p a hp ha _).mono ?_
    rw [HB.out]
    rintro e w1 ⟨rfl, hb1⟩
    go_wp2_with fail
    all_goals go_ret2
    all_goals refine ⟨?_, (by repeat (first | exact Below.refl _ _ | assumption | (refine Below.allocT ?_ _) | refine Below.drew ?_ | refine below_drewN ?_ _ | (refine Below.then ?_ (by assumption)) | (refine Below.setRow ?_ ?_ _; rotate_left; (focus (first | exact Nat.lt_succ_self _ | (simp only [World.size_alloc]; omega) | (simp; done) | (simp; omega) | omega))) | (refine Below.setCell ?_ ?_ _; rotate_left; (focus (first | exact Nat.lt_succ_self _ | (simp only [World.size_alloc]; omega) | (simp; done) | (simp; omega) | omega))) | (refine Below.then' ?_ (by assumption) ?_; rotate_left; (focus (first | exact Nat.lt_succ_self _ | (simp only [World.size_alloc]; omega) | (simp; done) | (simp; omega) | omega))) | fail))⟩
    all_goals unfold stepN
    all_goals rw [HB.out]
    all_goals simp
    all_goals omega
  · go_enter Try.func16, Try.ntmps16
    go_wp2_with fail
    refine (two_any p a hp ha _).mono ?_
    rw [HB.out]
    rintro e w1 ⟨rfl, hb1⟩
    go_wp2_with fail
    go_ret2
    exact ⟨by simp [stepN, HB.out], (by repeat (first | exact Below.refl _ _ | assumption | (refine Below.allocT ?_ _) | refine Below.drew ?_ | refine below_drewN ?_ _ | (refine Below.then ?_ (by assumption)) | (refine Below.setRow ?_ ?_ _; rotate_left; (focus (first | exact Nat.lt_succ_self _ | (simp only [World.size_alloc]; omega) | (simp; done) | (simp; omega) | omega))) | (refine Below.setCell ?_ ?_ _; rotate_left; (focus (first | exact Nat.lt_succ_self _ | (simp only [World.size_alloc]; omega) | (simp; done) | (simp; omega) | omega))) | (refine Below.then' ?_ (by assumption) ?_; rotate_left; (focus (first | exact Nat.lt_succ_self _ | (simp only [World.size_alloc]; omega) | (simp; done) | (simp; omega) | omega))) | fail))⟩
theorem of_any (P : Par) (calm : Int) (em : Bool) (w : World) :
    Calls Try.prog 17 #[.agg P.cells, .int .i64 calm, .bool em] w fun e w' => e = .returned (.int .i64 (modeOf P.delay calm em)) ∧ Below w.heap.size w w' := by
  cases em
  · go_enter Try.func17, Try.ntmps17
    go_wp2
    all_goals go_ret
    all_goals refine ⟨ret_int ?_, (by repeat (first | exact Below.refl _ _ | assumption | (refine Below.allocT ?_ _) | refine Below.drew ?_ | refine below_drewN ?_ _ | (refine Below.then ?_ (by assumption)) | (refine Below.setRow ?_ ?_ _; rotate_left; (focus (first | exact Nat.lt_succ_self _ | (simp only [World.size_alloc]; omega) | (simp; done) | (simp; omega) | omega))) | (refine Below.setCell ?_ ?_ _; rotate_left; (focus (first | exact Nat.lt_succ_self _ | (simp only [World.size_alloc]; omega) | (simp; done) | (simp; omega) | omega))) | (refine Below.then' ?_ (by assumption) ?_; rotate_left; (focus (first | exact Nat.lt_succ_self _ | (simp only [World.size_alloc]; omega) | (simp; done) | (simp; omega) | omega))) | fail))⟩
    all_goals unfold modeOf
    all_goals simp
    all_goals omega
  · go_enter Try.func17, Try.ntmps17
    go_wp2
    all_goals go_ret
    exact ⟨rfl, (by repeat (first | exact Below.refl _ _ | assumption | (refine Below.allocT ?_ _) | refine Below.drew ?_ | refine below_drewN ?_ _ | (refine Below.then ?_ (by assumption)) | (refine Below.setRow ?_ ?_ _; rotate_left; (focus (first | exact Nat.lt_succ_self _ | (simp only [World.size_alloc]; omega) | (simp; done) | (simp; omega) | omega))) | (refine Below.setCell ?_ ?_ _; rotate_left; (focus (first | exact Nat.lt_succ_self _ | (simp only [World.size_alloc]; omega) | (simp; done) | (simp; omega) | omega))) | (refine Below.then' ?_ (by assumption) ?_; rotate_left; (focus (first | exact Nat.lt_succ_self _ | (simp only [World.size_alloc]; omega) | (simp; done) | (simp; omega) | omega))) | fail))⟩
end Go.Proofs.Ytfdjmpaikbaepaa
