/-
  What bullionref02.Less and Two answer.
-/
import Derived.Test.YtfdjmpaikbaepaaRatio
import Derived.Test.YtfdjmpaikbaepaaRef01b
import Derived.Test.YtfdjmpaikbaepaaRef01f
namespace Go.Proofs.Ytfdjmpaikbaepaa
open Go.RowKit
set_option linter.unusedVariables false

theorem cmp_neg {x y : Nat} : decide (cmpI x y < 0) = decide (x < y) := by
  unfold cmpI
  rw [Bool.eq_iff_iff]
  split <;> (try split) <;> simp <;> omega
set_option maxHeartbeats 400000 in
theorem rless_any (a b c d : Nat) (ha : a < 18446744073709551616) (hb : b < 18446744073709551616) (hc : c < 18446744073709551616) (hd : d < 18446744073709551616) (w : World) :
    Calls Try.prog 47 #[.int .u64 a, .int .u64 b, .int .u64 c, .int .u64 d] w fun e w' => e = .returned (.bool (lessB a b c d)) ∧ Below w.heap.size w w' := by
  have la := len_u64 ha
  have lb := len_u64 hb
  have lc := len_u64 hc
  have ld := len_u64 hd
  have lm := len_mul a b
  have lm' := len_mul c d
  go_enter Try.func47, Try.ntmps47
  go_wp2_with fail
  refine (ofn_any a ha _).mono ?_
  rintro e w1 ⟨A1, x1, rfl, hN1, hb1, _⟩
  go_wp2_with fail
  refine (ofn_any b hb _).mono ?_
  rintro e w2 ⟨A2, x2, rfl, hN2, hb2, _⟩
  go_wp2_with fail
  refine (muln_any A1 A2 _ x1 _ x2 a b _ (hN1.stay hb2) hN2 (by omega) (by omega)).mono ?_
  rintro e w3 ⟨A3, x3, rfl, hN3, hb3, _⟩
  go_wp2_with fail
  refine (ofn_any c hc _).mono ?_
  rintro e w4 ⟨A4, x4, rfl, hN4, hb4, _⟩
  go_wp2_with fail
  refine (ofn_any d hd _).mono ?_
  rintro e w5 ⟨A5, x5, rfl, hN5, hb5, _⟩
  go_wp2_with fail
  refine (muln_any A4 A5 _ x4 _ x5 c d _ (hN4.stay hb5) hN5 (by omega) (by omega)).mono ?_
  rintro e w6 ⟨A6, x6, rfl, hN6, hb6, _⟩
  go_wp2_with fail
  refine (cmp_any A3 A6 _ x3 _ x6 (a * b) (c * d) _ (((hN3.stay hb4).stay hb5).stay hb6) hN6 (by omega) (by omega)).mono ?_
  rintro e w7 ⟨rfl, hb7⟩
  go_wp2_with fail
  all_goals go_ret
  all_goals refine ⟨ret_bool ?_, (by repeat (first | exact Below.refl _ _ | assumption | (refine Below.allocT ?_ _) | refine Below.drew ?_ | refine below_drewN ?_ _ | (refine Below.then ?_ (by assumption)) | (refine Below.setRow ?_ ?_ _; rotate_left; (focus (first | exact Nat.lt_succ_self _ | (simp only [World.size_alloc]; omega) | (simp; done) | (simp; omega) | omega))) | (refine Below.setCell ?_ ?_ _; rotate_left; (focus (first | exact Nat.lt_succ_self _ | (simp only [World.size_alloc]; omega) | (simp; done) | (simp; omega) | omega))) | (refine Below.then' ?_ (by assumption) ?_; rotate_left; (focus (first | exact Nat.lt_succ_self _ | (simp only [World.size_alloc]; omega) | (simp; done) | (simp; omega) | omega))) | fail))⟩
  all_goals unfold lessB
  all_goals exact cmp_neg
theorem rtwo_any (p a : Nat) (hp : p < 18446744073709551616) (ha : a < 18446744073709551616) (w : World) :
    Calls Try.prog 49 #[.int .u64 p, .int .u64 a] w fun e w' => e = .returned (.bool (twoB p a)) ∧ Below w.heap.size w w' := by
  by_cases h : 0 < a
  · go_enter Try.func49, Try.ntmps49
    go_wp2_with fail
    refine (rless_any 2 a 3 p (by omega) ha (by omega) hp _).mono ?_
    rintro e w1 ⟨rfl, hb1⟩
    go_wp2_with fail
    go_ret
    exact ⟨ret_bool (by simp [twoB, h]), hb1⟩
  · go_enter Try.func49, Try.ntmps49
    go_wp2_with fail
    go_ret
    exact ⟨ret_bool (by simp [twoB, h]), Below.refl _ _⟩
end Go.Proofs.Ytfdjmpaikbaepaa
