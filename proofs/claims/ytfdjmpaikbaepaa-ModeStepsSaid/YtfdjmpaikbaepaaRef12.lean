/-
  What bullionref12.Step, Of and Word, and mode.Word answer.
-/
import Derived.Test.YtfdjmpaikbaepaaMode
import Derived.Test.YtfdjmpaikbaepaaRef02
namespace Go.Proofs.Ytfdjmpaikbaepaa
open Go.RowKit

theorem rstep_any (calm : Int) (p a : Nat) (hc : -9223372036854775808 ≤ calm) (hc' : calm ≤ 9223372036854775807) (hp : p < 18446744073709551616) (ha : a < 18446744073709551616) (w : World) :
    Calls Try.prog 18 #[.int .i64 calm, .int .u64 p, .int .u64 a] w fun e w' => e = .returned (.tuple #[.int .i64 (stepN calm p a), .bool (twoB p a)]) ∧ Below w.heap.size w w' := by
  cases hb : twoB p a
  all_goals have HB := Lib.hid hb; clear hb
  · go_enter Try.func18, Try.ntmps18
    go_wp2_with fail
    refine (rtwo_any p a hp ha _).mono ?_
    rw [HB.out]
    rintro e w1 ⟨rfl, hb1⟩
    go_wp2_with fail
    all_goals go_ret2
    all_goals refine ⟨?_, (by repeat (first | exact Below.refl _ _ | assumption | (refine Below.allocT ?_ _) | refine Below.drew ?_ | refine below_drewN ?_ _ | (refine Below.then ?_ (by assumption)) | (refine Below.setRow ?_ ?_ _; rotate_left; (focus (first | exact Nat.lt_succ_self _ | (simp only [World.size_alloc]; omega) | (simp; done) | (simp; omega) | omega))) | (refine Below.setCell ?_ ?_ _; rotate_left; (focus (first | exact Nat.lt_succ_self _ | (simp only [World.size_alloc]; omega) | (simp; done) | (simp; omega) | omega))) | (refine Below.then' ?_ (by assumption) ?_; rotate_left; (focus (first | exact Nat.lt_succ_self _ | (simp only [World.size_alloc]; omega) | (simp; done) | (simp; omega) | omega))) | fail))⟩
    all_goals unfold stepN
    all_goals rw [HB.out]
    all_goals simp
    all_goals omega
  · go_enter Try.func18, Try.ntmps18
    go_wp2_with fail
    refine (rtwo_any p a hp ha _).mono ?_
    rw [HB.out]
    rintro e w1 ⟨rfl, hb1⟩
    go_wp2_with fail
    go_ret2
    exact ⟨by simp [stepN, HB.out], (by repeat (first | exact Below.refl _ _ | assumption | (refine Below.allocT ?_ _) | refine Below.drew ?_ | refine below_drewN ?_ _ | (refine Below.then ?_ (by assumption)) | (refine Below.setRow ?_ ?_ _; rotate_left; (focus (first | exact Nat.lt_succ_self _ | (simp only [World.size_alloc]; omega) | (simp; done) | (simp; omega) | omega))) | (refine Below.setCell ?_ ?_ _; rotate_left; (focus (first | exact Nat.lt_succ_self _ | (simp only [World.size_alloc]; omega) | (simp; done) | (simp; omega) | omega))) | (refine Below.then' ?_ (by assumption) ?_; rotate_left; (focus (first | exact Nat.lt_succ_self _ | (simp only [World.size_alloc]; omega) | (simp; done) | (simp; omega) | omega))) | fail))⟩
theorem rof_any (delay calm : Int) (em : Bool) (w : World) :
    Calls Try.prog 19 #[.int .i64 delay, .int .i64 calm, .bool em] w fun e w' => e = .returned (.int .i64 (modeOf delay calm em)) ∧ Below w.heap.size w w' := by
  cases em
  · go_enter Try.func19, Try.ntmps19
    go_wp2
    all_goals go_ret
    all_goals refine ⟨ret_int ?_, (by repeat (first | exact Below.refl _ _ | assumption | (refine Below.allocT ?_ _) | refine Below.drew ?_ | refine below_drewN ?_ _ | (refine Below.then ?_ (by assumption)) | (refine Below.setRow ?_ ?_ _; rotate_left; (focus (first | exact Nat.lt_succ_self _ | (simp only [World.size_alloc]; omega) | (simp; done) | (simp; omega) | omega))) | (refine Below.setCell ?_ ?_ _; rotate_left; (focus (first | exact Nat.lt_succ_self _ | (simp only [World.size_alloc]; omega) | (simp; done) | (simp; omega) | omega))) | (refine Below.then' ?_ (by assumption) ?_; rotate_left; (focus (first | exact Nat.lt_succ_self _ | (simp only [World.size_alloc]; omega) | (simp; done) | (simp; omega) | omega))) | fail))⟩
    all_goals unfold modeOf
    all_goals simp
    all_goals omega
  · go_enter Try.func19, Try.ntmps19
    go_wp2
    all_goals go_ret
    exact ⟨rfl, (by repeat (first | exact Below.refl _ _ | assumption | (refine Below.allocT ?_ _) | refine Below.drew ?_ | refine below_drewN ?_ _ | (refine Below.then ?_ (by assumption)) | (refine Below.setRow ?_ ?_ _; rotate_left; (focus (first | exact Nat.lt_succ_self _ | (simp only [World.size_alloc]; omega) | (simp; done) | (simp; omega) | omega))) | (refine Below.setCell ?_ ?_ _; rotate_left; (focus (first | exact Nat.lt_succ_self _ | (simp only [World.size_alloc]; omega) | (simp; done) | (simp; omega) | omega))) | (refine Below.then' ?_ (by assumption) ?_; rotate_left; (focus (first | exact Nat.lt_succ_self _ | (simp only [World.size_alloc]; omega) | (simp; done) | (simp; omega) | omega))) | fail))⟩
def wordS (m : Int) : ByteArray := if m = 1 then ⟨#[110, 111, 114, 109, 97, 108]⟩ else if m = 2 then ⟨#[100, 101, 108, 97, 121]⟩ else if m = 3 then ⟨#[108, 101, 97, 107]⟩ else if m = 4 then ⟨#[101, 109, 101, 114, 103, 101, 110, 99, 121]⟩ else ⟨#[]⟩
theorem ret_str {a b : ByteArray} (h : a = b) : Ending.returned (.string a) = .returned (.string b) := by rw [h]
theorem word_same (m : Int) : (wordS m == wordS m) = true := by unfold wordS; split <;> (try split) <;> (try split) <;> (try split) <;> rfl
theorem rword_any (m : Int) (w : World) : Calls Try.prog 21 #[.int .i64 m] w fun e w' => e = .returned (.string (wordS m)) ∧ Below w.heap.size w w' := by
  by_cases h1 : m = 1
  · subst h1; go_enter Try.func21, Try.ntmps21
    go_wp2; go_ret; exact ⟨rfl, (by repeat (first | exact Below.refl _ _ | assumption | (refine Below.allocT ?_ _) | refine Below.drew ?_ | refine below_drewN ?_ _ | (refine Below.then ?_ (by assumption)) | (refine Below.setRow ?_ ?_ _; rotate_left; (focus (first | exact Nat.lt_succ_self _ | (simp only [World.size_alloc]; omega) | (simp; done) | (simp; omega) | omega))) | (refine Below.setCell ?_ ?_ _; rotate_left; (focus (first | exact Nat.lt_succ_self _ | (simp only [World.size_alloc]; omega) | (simp; done) | (simp; omega) | omega))) | (refine Below.then' ?_ (by assumption) ?_; rotate_left; (focus (first | exact Nat.lt_succ_self _ | (simp only [World.size_alloc]; omega) | (simp; done) | (simp; omega) | omega))) | fail))⟩
  by_cases h2 : m = 2
  · subst h2; go_enter Try.func21, Try.ntmps21
    go_wp2; go_ret; exact ⟨rfl, (by repeat (first | exact Below.refl _ _ | assumption | (refine Below.allocT ?_ _) | refine Below.drew ?_ | refine below_drewN ?_ _ | (refine Below.then ?_ (by assumption)) | (refine Below.setRow ?_ ?_ _; rotate_left; (focus (first | exact Nat.lt_succ_self _ | (simp only [World.size_alloc]; omega) | (simp; done) | (simp; omega) | omega))) | (refine Below.setCell ?_ ?_ _; rotate_left; (focus (first | exact Nat.lt_succ_self _ | (simp only [World.size_alloc]; omega) | (simp; done) | (simp; omega) | omega))) | (refine Below.then' ?_ (by assumption) ?_; rotate_left; (focus (first | exact Nat.lt_succ_self _ | (simp only [World.size_alloc]; omega) | (simp; done) | (simp; omega) | omega))) | fail))⟩
  by_cases h3 : m = 3
  · subst h3; go_enter Try.func21, Try.ntmps21
    go_wp2; go_ret; exact ⟨rfl, (by repeat (first | exact Below.refl _ _ | assumption | (refine Below.allocT ?_ _) | refine Below.drew ?_ | refine below_drewN ?_ _ | (refine Below.then ?_ (by assumption)) | (refine Below.setRow ?_ ?_ _; rotate_left; (focus (first | exact Nat.lt_succ_self _ | (simp only [World.size_alloc]; omega) | (simp; done) | (simp; omega) | omega))) | (refine Below.setCell ?_ ?_ _; rotate_left; (focus (first | exact Nat.lt_succ_self _ | (simp only [World.size_alloc]; omega) | (simp; done) | (simp; omega) | omega))) | (refine Below.then' ?_ (by assumption) ?_; rotate_left; (focus (first | exact Nat.lt_succ_self _ | (simp only [World.size_alloc]; omega) | (simp; done) | (simp; omega) | omega))) | fail))⟩
  by_cases h4 : m = 4
  · subst h4; go_enter Try.func21, Try.ntmps21
    go_wp2; go_ret; exact ⟨rfl, (by repeat (first | exact Below.refl _ _ | assumption | (refine Below.allocT ?_ _) | refine Below.drew ?_ | refine below_drewN ?_ _ | (refine Below.then ?_ (by assumption)) | (refine Below.setRow ?_ ?_ _; rotate_left; (focus (first | exact Nat.lt_succ_self _ | (simp only [World.size_alloc]; omega) | (simp; done) | (simp; omega) | omega))) | (refine Below.setCell ?_ ?_ _; rotate_left; (focus (first | exact Nat.lt_succ_self _ | (simp only [World.size_alloc]; omega) | (simp; done) | (simp; omega) | omega))) | (refine Below.then' ?_ (by assumption) ?_; rotate_left; (focus (first | exact Nat.lt_succ_self _ | (simp only [World.size_alloc]; omega) | (simp; done) | (simp; omega) | omega))) | fail))⟩
  · have t1 : (m == 1) = false := by simp [h1]
    have t2 : (m == 2) = false := by simp [h2]
    have t3 : (m == 3) = false := by simp [h3]
    have t4 : (m == 4) = false := by simp [h4]
    go_enter Try.func21, Try.ntmps21
    go_wp2; go_ret; exact ⟨ret_str (by simp [wordS, h1, h2, h3, h4]), (by repeat (first | exact Below.refl _ _ | assumption | (refine Below.allocT ?_ _) | refine Below.drew ?_ | refine below_drewN ?_ _ | (refine Below.then ?_ (by assumption)) | (refine Below.setRow ?_ ?_ _; rotate_left; (focus (first | exact Nat.lt_succ_self _ | (simp only [World.size_alloc]; omega) | (simp; done) | (simp; omega) | omega))) | (refine Below.setCell ?_ ?_ _; rotate_left; (focus (first | exact Nat.lt_succ_self _ | (simp only [World.size_alloc]; omega) | (simp; done) | (simp; omega) | omega))) | (refine Below.then' ?_ (by assumption) ?_; rotate_left; (focus (first | exact Nat.lt_succ_self _ | (simp only [World.size_alloc]; omega) | (simp; done) | (simp; omega) | omega))) | fail))⟩
theorem word_any (m : Int) (hm : i64ok m) (w : World) : Calls Try.prog 20 #[.int .i64 m] w fun e w' => e = .returned (.string (wordS m)) ∧ Below w.heap.size w w' := by
  obtain ⟨hm1, hm2⟩ := hm
  by_cases h1 : m = 1
  · subst h1; go_enter Try.func20, Try.ntmps20
    go_wp2; go_ret; exact ⟨rfl, (by repeat (first | exact Below.refl _ _ | assumption | (refine Below.allocT ?_ _) | refine Below.drew ?_ | refine below_drewN ?_ _ | (refine Below.then ?_ (by assumption)) | (refine Below.setRow ?_ ?_ _; rotate_left; (focus (first | exact Nat.lt_succ_self _ | (simp only [World.size_alloc]; omega) | (simp; done) | (simp; omega) | omega))) | (refine Below.setCell ?_ ?_ _; rotate_left; (focus (first | exact Nat.lt_succ_self _ | (simp only [World.size_alloc]; omega) | (simp; done) | (simp; omega) | omega))) | (refine Below.then' ?_ (by assumption) ?_; rotate_left; (focus (first | exact Nat.lt_succ_self _ | (simp only [World.size_alloc]; omega) | (simp; done) | (simp; omega) | omega))) | fail))⟩
  by_cases h2 : m = 2
  · subst h2; go_enter Try.func20, Try.ntmps20
    go_wp2; go_ret; exact ⟨rfl, (by repeat (first | exact Below.refl _ _ | assumption | (refine Below.allocT ?_ _) | refine Below.drew ?_ | refine below_drewN ?_ _ | (refine Below.then ?_ (by assumption)) | (refine Below.setRow ?_ ?_ _; rotate_left; (focus (first | exact Nat.lt_succ_self _ | (simp only [World.size_alloc]; omega) | (simp; done) | (simp; omega) | omega))) | (refine Below.setCell ?_ ?_ _; rotate_left; (focus (first | exact Nat.lt_succ_self _ | (simp only [World.size_alloc]; omega) | (simp; done) | (simp; omega) | omega))) | (refine Below.then' ?_ (by assumption) ?_; rotate_left; (focus (first | exact Nat.lt_succ_self _ | (simp only [World.size_alloc]; omega) | (simp; done) | (simp; omega) | omega))) | fail))⟩
  by_cases h3 : m = 3
  · subst h3; go_enter Try.func20, Try.ntmps20
    go_wp2; go_ret; exact ⟨rfl, (by repeat (first | exact Below.refl _ _ | assumption | (refine Below.allocT ?_ _) | refine Below.drew ?_ | refine below_drewN ?_ _ | (refine Below.then ?_ (by assumption)) | (refine Below.setRow ?_ ?_ _; rotate_left; (focus (first | exact Nat.lt_succ_self _ | (simp only [World.size_alloc]; omega) | (simp; done) | (simp; omega) | omega))) | (refine Below.setCell ?_ ?_ _; rotate_left; (focus (first | exact Nat.lt_succ_self _ | (simp only [World.size_alloc]; omega) | (simp; done) | (simp; omega) | omega))) | (refine Below.then' ?_ (by assumption) ?_; rotate_left; (focus (first | exact Nat.lt_succ_self _ | (simp only [World.size_alloc]; omega) | (simp; done) | (simp; omega) | omega))) | fail))⟩
  by_cases h4 : m = 4
  · subst h4; go_enter Try.func20, Try.ntmps20
    go_wp2; go_ret; exact ⟨rfl, (by repeat (first | exact Below.refl _ _ | assumption | (refine Below.allocT ?_ _) | refine Below.drew ?_ | refine below_drewN ?_ _ | (refine Below.then ?_ (by assumption)) | (refine Below.setRow ?_ ?_ _; rotate_left; (focus (first | exact Nat.lt_succ_self _ | (simp only [World.size_alloc]; omega) | (simp; done) | (simp; omega) | omega))) | (refine Below.setCell ?_ ?_ _; rotate_left; (focus (first | exact Nat.lt_succ_self _ | (simp only [World.size_alloc]; omega) | (simp; done) | (simp; omega) | omega))) | (refine Below.then' ?_ (by assumption) ?_; rotate_left; (focus (first | exact Nat.lt_succ_self _ | (simp only [World.size_alloc]; omega) | (simp; done) | (simp; omega) | omega))) | fail))⟩
  by_cases h0 : m = 0
  · subst h0; go_enter Try.func20, Try.ntmps20
    go_wp2; go_ret; exact ⟨rfl, (by repeat (first | exact Below.refl _ _ | assumption | (refine Below.allocT ?_ _) | refine Below.drew ?_ | refine below_drewN ?_ _ | (refine Below.then ?_ (by assumption)) | (refine Below.setRow ?_ ?_ _; rotate_left; (focus (first | exact Nat.lt_succ_self _ | (simp only [World.size_alloc]; omega) | (simp; done) | (simp; omega) | omega))) | (refine Below.setCell ?_ ?_ _; rotate_left; (focus (first | exact Nat.lt_succ_self _ | (simp only [World.size_alloc]; omega) | (simp; done) | (simp; omega) | omega))) | (refine Below.then' ?_ (by assumption) ?_; rotate_left; (focus (first | exact Nat.lt_succ_self _ | (simp only [World.size_alloc]; omega) | (simp; done) | (simp; omega) | omega))) | fail))⟩
  by_cases hn : m < 0
  · go_enter Try.func20, Try.ntmps20
    go_wp2; go_ret; exact ⟨ret_str (by simp [wordS, h1, h2, h3, h4]), (by repeat (first | exact Below.refl _ _ | assumption | (refine Below.allocT ?_ _) | refine Below.drew ?_ | refine below_drewN ?_ _ | (refine Below.then ?_ (by assumption)) | (refine Below.setRow ?_ ?_ _; rotate_left; (focus (first | exact Nat.lt_succ_self _ | (simp only [World.size_alloc]; omega) | (simp; done) | (simp; omega) | omega))) | (refine Below.setCell ?_ ?_ _; rotate_left; (focus (first | exact Nat.lt_succ_self _ | (simp only [World.size_alloc]; omega) | (simp; done) | (simp; omega) | omega))) | (refine Below.then' ?_ (by assumption) ?_; rotate_left; (focus (first | exact Nat.lt_succ_self _ | (simp only [World.size_alloc]; omega) | (simp; done) | (simp; omega) | omega))) | fail))⟩
  · have h5 : 5 ≤ m := by omega
    go_enter Try.func20, Try.ntmps20
    go_wp2; go_ret; exact ⟨ret_str (by simp [wordS, h1, h2, h3, h4]), (by repeat (first | exact Below.refl _ _ | assumption | (refine Below.allocT ?_ _) | refine Below.drew ?_ | refine below_drewN ?_ _ | (refine Below.then ?_ (by assumption)) | (refine Below.setRow ?_ ?_ _; rotate_left; (focus (first | exact Nat.lt_succ_self _ | (simp only [World.size_alloc]; omega) | (simp; done) | (simp; omega) | omega))) | (refine Below.setCell ?_ ?_ _; rotate_left; (focus (first | exact Nat.lt_succ_self _ | (simp only [World.size_alloc]; omega) | (simp; done) | (simp; omega) | omega))) | (refine Below.then' ?_ (by assumption) ?_; rotate_left; (focus (first | exact Nat.lt_succ_self _ | (simp only [World.size_alloc]; omega) | (simp; done) | (simp; omega) | omega))) | fail))⟩
end Go.Proofs.Ytfdjmpaikbaepaa
