/-
  What ratio.Less and ratio.Two answer, of numbers of 64 bits.
-/
import Derived.Test.YtnakkjgnjffkpaaBits
import Derived.Test.YtnakkjgnjffkpaaMem
namespace Go.Proofs.Ytnakkjgnjffkpaa
open Go.RowKit
set_option linter.unusedVariables false

theorem times_any (a b : Nat) (ha : a < 18446744073709551616) (hb : b < 18446744073709551616) (w : World) :
    Calls Try.prog 164 #[.int .u64 a, .int .u64 b] w fun e w' => e = .returned (.agg #[.int .u64 ((a * b / 18446744073709551616 : Nat) : Int), .int .u64 ((a * b % 18446744073709551616 : Nat) : Int)]) ∧ Below w.heap.size w w' := by
  go_enter Try.func164, Try.ntmps164
  go_wp2_with (go_at_call 166; refine (mul64_any _ _ (by omega) (by omega) _).mono ?_; rintro e w' ⟨rfl, rfl⟩)
  exact bodyPost_ret (v := .agg #[.int .u64 ((a * b / 18446744073709551616 : Nat) : Int), .int .u64 ((a * b % 18446744073709551616 : Nat) : Int)]) (by simp [results, Try.results164, go_sem]) rfl ⟨rfl, (by (repeat (first | exact Below.refl _ _ | assumption | (refine Below.allocT ?_ _) | refine Below.drew ?_ | refine below_drewN ?_ _ | (refine Below.then ?_ (by assumption)) | (refine Below.setRow ?_ ?_ _; rotate_left; (focus (first | exact Nat.lt_succ_self _ | ((repeat rw [World.size_alloc]); omega) | (simp; done) | (simp; omega) | omega))) | (refine Below.setCell ?_ ?_ _; rotate_left; (focus (first | exact Nat.lt_succ_self _ | ((repeat rw [World.size_alloc]); omega) | (simp; done) | (simp; omega) | omega))) | (refine Below.then' ?_ (by assumption) ?_; rotate_left; (focus (first | exact Nat.lt_succ_self _ | ((repeat rw [World.size_alloc]); omega) | (simp; done) | (simp; omega) | omega))) | fail)); (first | done | fail))⟩
def wlB (a b c d : Nat) : Bool := decide (a < c ∨ a = c ∧ b < d)
theorem wless_any (a b c d : Nat) (w : World) :
    Calls Try.prog 165 #[.agg #[.int .u64 a, .int .u64 b], .agg #[.int .u64 c, .int .u64 d]] w fun e w' => e = .returned (.bool (wlB a b c d)) ∧ Below w.heap.size w w' := by
  go_enter Try.func165, Try.ntmps165
  go_wp2
  all_goals go_ret
  all_goals refine ⟨ret_bool ?_, (by (repeat (first | exact Below.refl _ _ | assumption | (refine Below.allocT ?_ _) | refine Below.drew ?_ | refine below_drewN ?_ _ | (refine Below.then ?_ (by assumption)) | (refine Below.setRow ?_ ?_ _; rotate_left; (focus (first | exact Nat.lt_succ_self _ | ((repeat rw [World.size_alloc]); omega) | (simp; done) | (simp; omega) | omega))) | (refine Below.setCell ?_ ?_ _; rotate_left; (focus (first | exact Nat.lt_succ_self _ | ((repeat rw [World.size_alloc]); omega) | (simp; done) | (simp; omega) | omega))) | (refine Below.then' ?_ (by assumption) ?_; rotate_left; (focus (first | exact Nat.lt_succ_self _ | ((repeat rw [World.size_alloc]); omega) | (simp; done) | (simp; omega) | omega))) | fail)); (first | done | fail))⟩
  all_goals unfold wlB
  all_goals rw [Bool.eq_iff_iff]
  all_goals simp
  all_goals omega
def lessB (a b c d : Nat) : Bool := decide (a * b < c * d)
def twoB (p a : Nat) : Bool := decide (0 < a) && lessB 2 a 3 p
theorem less_halves (x y M : Nat) (hM : 0 < M) : (x / M < y / M ∨ x / M = y / M ∧ x % M < y % M) ↔ x < y := by
  have hx := Nat.div_add_mod x M
  have hy := Nat.div_add_mod y M
  have h1 := Nat.mod_lt x hM
  have h2 := Nat.mod_lt y hM
  constructor
  · rintro (h | ⟨h, h'⟩)
    · have : M * (x / M + 1) ≤ M * (y / M) := Nat.mul_le_mul_left M h
      rw [Nat.mul_add] at this; omega
    · rw [h] at hx; omega
  · intro h
    rcases Nat.lt_trichotomy (x / M) (y / M) with h3 | h3 | h3
    · exact .inl h3
    · rw [h3] at hx; exact .inr ⟨h3, by omega⟩
    · have : M * (y / M + 1) ≤ M * (x / M) := Nat.mul_le_mul_left M h3
      rw [Nat.mul_add] at this; omega
theorem less_any (a b c d : Nat) (ha : a < 18446744073709551616) (hb : b < 18446744073709551616) (hc : c < 18446744073709551616) (hd : d < 18446744073709551616) (w : World) :
    Calls Try.prog 150 #[.int .u64 a, .int .u64 b, .int .u64 c, .int .u64 d] w fun e w' => e = .returned (.bool (lessB a b c d)) ∧ Below w.heap.size w w' := by
  go_enter Try.func150, Try.ntmps150
  go_wp2_with fail
  refine (times_any _ _ ha hb _).mono ?_
  rintro e w1 ⟨rfl, hb1⟩
  go_wp2_with fail
  refine (times_any _ _ hc hd _).mono ?_
  rintro e w2 ⟨rfl, hb2⟩
  go_wp2_with fail
  refine (wless_any _ _ _ _ _).mono ?_
  rintro e w3 ⟨rfl, hb3⟩
  go_wp2_with fail
  go_ret
  refine ⟨ret_bool ?_, hb1.trans ((hb2.trans (hb3.mono hb2.size)).mono hb1.size)⟩
  unfold lessB wlB
  rw [decide_eq_decide]
  exact less_halves _ _ _ (by omega)
end Go.Proofs.Ytnakkjgnjffkpaa
