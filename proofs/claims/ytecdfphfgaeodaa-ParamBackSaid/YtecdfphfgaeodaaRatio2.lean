/-
  What ratio.Over, Down and Up answer, of numbers of 64 bits.
-/
import Derived.Test.YtecdfphfgaeodaaRatio
import Derived.Test.YtecdfphfgaeodaaDiv64
import Derived.Test.YtecdfphfgaeodaaMoney
namespace Go.Proofs.Ytecdfphfgaeodaa
open Go.RowKit
set_option linter.unusedVariables false

/-- A product by a number: what is told of it, and of what is left. -/
def quoV (n c : Nat) : Nat := if c = 0 then 0 else fit (n / c)
def quoE (n c : Nat) : Int := if c = 0 then 20 else toldE (n / c)
def restV (n c : Nat) : Nat := if c = 0 then 0 else if n / c ≤ 18446744073709551615 then n % c else 0
def upQ (n c : Nat) : Nat := n / c + if n % c = 0 then 0 else 1
def upV (n c : Nat) : Nat := if c = 0 then 0 else fit (upQ n c)
def upE (n c : Nat) : Int := if c = 0 then 20 else toldE (upQ n c)
theorem high_ge {n c : Nat} (hc : 0 < c) : c ≤ n / 18446744073709551616 ↔ ¬ n / c ≤ 18446744073709551615 := by
  rw [Nat.le_div_iff_mul_le (by omega)]
  constructor
  · intro h h'
    have : n / c < 18446744073709551616 := by omega
    rw [Nat.div_lt_iff_lt_mul hc, Nat.mul_comm] at this
    omega
  · intro h
    have : 18446744073709551616 ≤ n / c := by omega
    rw [Nat.le_div_iff_mul_le hc, Nat.mul_comm] at this
    exact this
theorem div64_any (hi lo y : Nat) (hlt : hi < y) (hl : lo < 18446744073709551616) (hy : y < 18446744073709551616) (w : World) :
    Calls Try.prog 97 #[.int .u64 hi, .int .u64 lo, .int .u64 y] w fun e w' => e = .returned (.tuple #[.int .u64 (((hi * 18446744073709551616 + lo) / y : Nat) : Int), .int .u64 (((hi * 18446744073709551616 + lo) % y : Nat) : Int)]) ∧ Below w.heap.size w w' := by
  rcases Nat.eq_zero_or_pos hi with h | h
  · subst h
    rw [Nat.zero_mul, Nat.zero_add]
    exact div64_zero lo y hl hy (by omega) w
  · exact div64_pos hi lo y h hlt hl hy w
theorem by_any (n c : Nat) (hn : n / 18446744073709551616 < 18446744073709551616) (hc : c < 18446744073709551616) (h0 : 0 < c) (w : World) :
    Calls Try.prog 91 #[.agg #[.int .u64 ((n / 18446744073709551616 : Nat) : Int), .int .u64 ((n % 18446744073709551616 : Nat) : Int)], .int .u64 c] w fun e w' => e = .returned (.tuple #[.int .u64 ((quoV n c : Nat) : Int), .int .u64 ((restV n c : Nat) : Int), .bool (decide (n / c ≤ 18446744073709551615))]) ∧ Below w.heap.size w w' := by
  by_cases h : n / c ≤ 18446744073709551615
  · have h1 : n / 18446744073709551616 < c := by
      rcases Nat.lt_or_ge (n / 18446744073709551616) c with h2 | h2
      · exact h2
      · exact absurd h ((high_ge h0).1 h2)
    have hv : quoV n c = n / c := by unfold quoV; rw [if_neg (by omega), fit_le h]
    have hr : restV n c = n % c := by unfold restV; rw [if_neg (by omega), if_pos h]
    have hd : decide (n / c ≤ 18446744073709551615) = true := by simpa using h
    have HD := Lib.hid (fun W => div64_any (n / 18446744073709551616) (n % 18446744073709551616) c h1 (Nat.mod_lt _ (by omega)) hc W)
    rw [Nat.mul_comm, Nat.div_add_mod] at HD
    rw [hv, hr, hd]
    clear hv hr hd h
    generalize n / 18446744073709551616 = q at *
    generalize n % 18446744073709551616 = r at *
    go_enter Try.func91, Try.ntmps91
    go_wp2_with fail
    refine (HD.out _).mono ?_
    rintro e w1 ⟨rfl, hb1⟩
    go_wp2_with fail
    go_ret3
    exact ⟨rfl, (by (repeat (first | exact Below.refl _ _ | assumption | (refine Below.allocT ?_ _) | refine Below.drew ?_ | refine below_drewN ?_ _ | (refine Below.then ?_ (by assumption)) | (refine Below.setRow ?_ ?_ _; rotate_left; (focus (first | exact Nat.lt_succ_self _ | ((repeat rw [World.size_alloc]); omega) | (simp; done) | (simp; omega) | omega))) | (refine Below.setCell ?_ ?_ _; rotate_left; (focus (first | exact Nat.lt_succ_self _ | ((repeat rw [World.size_alloc]); omega) | (simp; done) | (simp; omega) | omega))) | (refine Below.then' ?_ (by assumption) ?_; rotate_left; (focus (first | exact Nat.lt_succ_self _ | ((repeat rw [World.size_alloc]); omega) | (simp; done) | (simp; omega) | omega))) | fail)); (first | done | fail))⟩
  · have h1 := (high_ge h0).2 h
    have hv : quoV n c = 0 := by unfold quoV; rw [if_neg (by omega), fit_gt h]
    have hr : restV n c = 0 := by unfold restV; rw [if_neg (by omega), if_neg h]
    have hd : decide (n / c ≤ 18446744073709551615) = false := by simpa using h
    rw [hv, hr, hd]
    clear hv hr hd h
    generalize n / 18446744073709551616 = q at *
    generalize n % 18446744073709551616 = r at *
    go_enter Try.func91, Try.ntmps91
    go_wp2_with fail
    go_ret3
    exact ⟨rfl, (by (repeat (first | exact Below.refl _ _ | assumption | (refine Below.allocT ?_ _) | refine Below.drew ?_ | refine below_drewN ?_ _ | (refine Below.then ?_ (by assumption)) | (refine Below.setRow ?_ ?_ _; rotate_left; (focus (first | exact Nat.lt_succ_self _ | ((repeat rw [World.size_alloc]); omega) | (simp; done) | (simp; omega) | omega))) | (refine Below.setCell ?_ ?_ _; rotate_left; (focus (first | exact Nat.lt_succ_self _ | ((repeat rw [World.size_alloc]); omega) | (simp; done) | (simp; omega) | omega))) | (refine Below.then' ?_ (by assumption) ?_; rotate_left; (focus (first | exact Nat.lt_succ_self _ | ((repeat rw [World.size_alloc]); omega) | (simp; done) | (simp; omega) | omega))) | fail)); (first | done | fail))⟩
theorem fdown_any (n c : Nat) (hn : n / 18446744073709551616 < 18446744073709551616) (hc : c < 18446744073709551616) (w : World) :
    Calls Try.prog 71 #[.agg #[.int .u64 ((n / 18446744073709551616 : Nat) : Int), .int .u64 ((n % 18446744073709551616 : Nat) : Int), .int .u64 c]] w fun e w' => e = .returned (.tuple #[.int .u64 ((quoV n c : Nat) : Int), .int .u64 ((restV n c : Nat) : Int), .int .i64 (quoE n c)]) ∧ Below w.heap.size w w' := by
  by_cases h0 : c = 0
  · subst h0
    go_enter Try.func71, Try.ntmps71
    go_wp2_with fail
    go_ret3
    exact ⟨rfl, (by (repeat (first | exact Below.refl _ _ | assumption | (refine Below.allocT ?_ _) | refine Below.drew ?_ | refine below_drewN ?_ _ | (refine Below.then ?_ (by assumption)) | (refine Below.setRow ?_ ?_ _; rotate_left; (focus (first | exact Nat.lt_succ_self _ | ((repeat rw [World.size_alloc]); omega) | (simp; done) | (simp; omega) | omega))) | (refine Below.setCell ?_ ?_ _; rotate_left; (focus (first | exact Nat.lt_succ_self _ | ((repeat rw [World.size_alloc]); omega) | (simp; done) | (simp; omega) | omega))) | (refine Below.then' ?_ (by assumption) ?_; rotate_left; (focus (first | exact Nat.lt_succ_self _ | ((repeat rw [World.size_alloc]); omega) | (simp; done) | (simp; omega) | omega))) | fail)); (first | done | fail))⟩
  · have h1 : ((c : Int) == 0) = false := by simp; omega
    have HB := Lib.hid (fun W => by_any n c hn hc (by omega) W)
    generalize n / 18446744073709551616 = q at *
    generalize n % 18446744073709551616 = r at *
    by_cases h : n / c ≤ 18446744073709551615
    · have he : quoE n c = 0 := by unfold quoE; rw [if_neg h0, told_le h]
      have hd : decide (n / c ≤ 18446744073709551615) = true := by simpa using h
      rw [hd] at HB
      rw [he]
      clear he hd h
      go_enter Try.func71, Try.ntmps71
      go_wp2_with fail
      refine (HB.out _).mono ?_
      rintro e w1 ⟨rfl, hb1⟩
      go_wp2_with fail
      go_ret3
      exact ⟨rfl, (by (repeat (first | exact Below.refl _ _ | assumption | (refine Below.allocT ?_ _) | refine Below.drew ?_ | refine below_drewN ?_ _ | (refine Below.then ?_ (by assumption)) | (refine Below.setRow ?_ ?_ _; rotate_left; (focus (first | exact Nat.lt_succ_self _ | ((repeat rw [World.size_alloc]); omega) | (simp; done) | (simp; omega) | omega))) | (refine Below.setCell ?_ ?_ _; rotate_left; (focus (first | exact Nat.lt_succ_self _ | ((repeat rw [World.size_alloc]); omega) | (simp; done) | (simp; omega) | omega))) | (refine Below.then' ?_ (by assumption) ?_; rotate_left; (focus (first | exact Nat.lt_succ_self _ | ((repeat rw [World.size_alloc]); omega) | (simp; done) | (simp; omega) | omega))) | fail)); (first | done | fail))⟩
    · have he : quoE n c = 10 := by unfold quoE; rw [if_neg h0, told_gt h]
      have hv : quoV n c = 0 := by unfold quoV; rw [if_neg h0, fit_gt h]
      have hr : restV n c = 0 := by unfold restV; rw [if_neg h0, if_neg h]
      have hd : decide (n / c ≤ 18446744073709551615) = false := by simpa using h
      rw [hd] at HB
      rw [he, hv, hr]
      clear he hv hr hd h
      go_enter Try.func71, Try.ntmps71
      go_wp2_with fail
      refine (HB.out _).mono ?_
      rintro e w1 ⟨rfl, hb1⟩
      go_wp2_with fail
      go_ret3
      exact ⟨rfl, (by (repeat (first | exact Below.refl _ _ | assumption | (refine Below.allocT ?_ _) | refine Below.drew ?_ | refine below_drewN ?_ _ | (refine Below.then ?_ (by assumption)) | (refine Below.setRow ?_ ?_ _; rotate_left; (focus (first | exact Nat.lt_succ_self _ | ((repeat rw [World.size_alloc]); omega) | (simp; done) | (simp; omega) | omega))) | (refine Below.setCell ?_ ?_ _; rotate_left; (focus (first | exact Nat.lt_succ_self _ | ((repeat rw [World.size_alloc]); omega) | (simp; done) | (simp; omega) | omega))) | (refine Below.then' ?_ (by assumption) ?_; rotate_left; (focus (first | exact Nat.lt_succ_self _ | ((repeat rw [World.size_alloc]); omega) | (simp; done) | (simp; omega) | omega))) | fail)); (first | done | fail))⟩
theorem over_any (a b c : Nat) (ha : a < 18446744073709551616) (hb : b < 18446744073709551616) (hc : c < 18446744073709551616) (w : World) :
    Calls Try.prog 46 #[.int .u64 a, .int .u64 b, .int .u64 c] w fun e w' => e = .returned (.tuple #[.int .u64 ((quoV (a * b) c : Nat) : Int), .int .u64 ((restV (a * b) c : Nat) : Int), .int .i64 (quoE (a * b) c)]) ∧ Below w.heap.size w w' := by
  have hn : a * b / 18446744073709551616 < 18446744073709551616 := by
    rw [Nat.div_lt_iff_lt_mul (by omega)]
    exact Nat.mul_lt_mul'' ha hb
  have HT := Lib.hid (fun W => times_any a b ha hb W)
  have HF := Lib.hid (fun W => fdown_any (a * b) c hn hc W)
  generalize a * b = n at *
  generalize n / 18446744073709551616 = q at *
  generalize n % 18446744073709551616 = r at *
  go_enter Try.func46, Try.ntmps46
  go_wp2_with fail
  refine (HT.out _).mono ?_
  rintro e w1 ⟨rfl, hb1⟩
  go_wp2_with fail
  refine (HF.out _).mono ?_
  rintro e w2 ⟨rfl, hb2⟩
  go_wp2_with fail
  go_ret3
  exact ⟨rfl, (by (repeat (first | exact Below.refl _ _ | assumption | (refine Below.allocT ?_ _) | refine Below.drew ?_ | refine below_drewN ?_ _ | (refine Below.then ?_ (by assumption)) | (refine Below.setRow ?_ ?_ _; rotate_left; (focus (first | exact Nat.lt_succ_self _ | ((repeat rw [World.size_alloc]); omega) | (simp; done) | (simp; omega) | omega))) | (refine Below.setCell ?_ ?_ _; rotate_left; (focus (first | exact Nat.lt_succ_self _ | ((repeat rw [World.size_alloc]); omega) | (simp; done) | (simp; omega) | omega))) | (refine Below.then' ?_ (by assumption) ?_; rotate_left; (focus (first | exact Nat.lt_succ_self _ | ((repeat rw [World.size_alloc]); omega) | (simp; done) | (simp; omega) | omega))) | fail)); (first | done | fail))⟩
theorem down_any (a b c : Nat) (ha : a < 18446744073709551616) (hb : b < 18446744073709551616) (hc : c < 18446744073709551616) (w : World) :
    Calls Try.prog 89 #[.int .u64 a, .int .u64 b, .int .u64 c] w fun e w' => e = .returned (.tuple #[.int .u64 ((quoV (a * b) c : Nat) : Int), .int .i64 (quoE (a * b) c)]) ∧ Below w.heap.size w w' := by
  go_enter Try.func89, Try.ntmps89
  go_wp2_with fail
  refine (over_any a b c ha hb hc _).mono ?_
  rintro e w1 ⟨rfl, hb1⟩
  go_wp2_with fail
  go_ret2
  exact ⟨rfl, hb1⟩
theorem up_any (a b c : Nat) (ha : a < 18446744073709551616) (hb : b < 18446744073709551616) (hc : c < 18446744073709551616) (w : World) :
    Calls Try.prog 18 #[.int .u64 a, .int .u64 b, .int .u64 c] w fun e w' => e = .returned (.tuple #[.int .u64 ((upV (a * b) c : Nat) : Int), .int .i64 (upE (a * b) c)]) ∧ Below w.heap.size w w' := by
  have HO := Lib.hid (fun W => over_any a b c ha hb hc W)
  generalize a * b = n at *
  by_cases h0 : c = 0
  · subst h0
    have e1 : quoV n 0 = 0 := rfl
    have e2 : quoE n 0 = 20 := rfl
    have e3 : restV n 0 = 0 := rfl
    have e4 : upV n 0 = 0 := rfl
    have e5 : upE n 0 = 20 := rfl
    rw [e1, e2, e3] at HO
    rw [e4, e5]
    clear e1 e2 e3 e4 e5
    go_enter Try.func18, Try.ntmps18
    go_wp2_with fail
    refine (HO.out _).mono ?_
    rintro e w1 ⟨rfl, hb1⟩
    go_wp2_with fail
    go_ret2
    exact ⟨rfl, hb1⟩
  · by_cases h : n / c ≤ 18446744073709551615
    · have e1 : quoV n c = n / c := by unfold quoV; rw [if_neg h0, fit_le h]
      have e2 : quoE n c = 0 := by unfold quoE; rw [if_neg h0, told_le h]
      have e3 : restV n c = n % c := by unfold restV; rw [if_neg h0, if_pos h]
      rw [e1, e2, e3] at HO
      by_cases hr : n % c = 0
      · have e4 : upV n c = n / c := by unfold upV upQ; rw [if_neg h0, if_pos hr, Nat.add_zero, fit_le h]
        have e5 : upE n c = 0 := by unfold upE upQ; rw [if_neg h0, if_pos hr, Nat.add_zero, told_le h]
        rw [e4, e5]
        rw [hr] at HO
        clear e1 e2 e3 e4 e5 hr
        generalize n / c = q at *
        go_enter Try.func18, Try.ntmps18
        go_wp2_with fail
        refine (HO.out _).mono ?_
        rintro e w1 ⟨rfl, hb1⟩
        go_wp2_with fail
        go_ret2
        exact ⟨rfl, hb1⟩
      · by_cases hm : n / c = 18446744073709551615
        · have e4 : upV n c = 0 := by unfold upV upQ; rw [if_neg h0, if_neg hr, fit_gt (by omega)]
          have e5 : upE n c = 10 := by unfold upE upQ; rw [if_neg h0, if_neg hr, told_gt (by omega)]
          rw [e4, e5]
          rw [hm] at HO
          have hr0 : ((n % c : Nat) : Int) ≠ 0 := by omega
          clear e1 e2 e3 e4 e5 hm h
          generalize n % c = r at *
          have hr1 : ((r : Int) == 0) = false := by simp; omega
          go_enter Try.func18, Try.ntmps18
          go_wp2_with fail
          refine (HO.out _).mono ?_
          rintro e w1 ⟨rfl, hb1⟩
          go_wp2_with fail
          go_ret2
          exact ⟨rfl, hb1⟩
        · have e4 : upV n c = n / c + 1 := by unfold upV upQ; rw [if_neg h0, if_neg hr, fit_le (by omega)]
          have e5 : upE n c = 0 := by unfold upE upQ; rw [if_neg h0, if_neg hr, told_le (by omega)]
          rw [e4, e5]
          clear e1 e2 e3 e4 e5
          generalize n % c = r at *
          generalize n / c = q at *
          have hr1 : ((r : Int) == 0) = false := by simp; omega
          have hq1 : q < 18446744073709551615 := by omega
          have hq2 : ((q : Int) == 18446744073709551615) = false := by simp; omega
          clear hm h
          go_enter Try.func18, Try.ntmps18
          go_wp2_with fail
          refine (HO.out _).mono ?_
          rintro e w1 ⟨rfl, hb1⟩
          go_wp2_with fail
          go_ret2
          exact ⟨rfl, hb1⟩
    · have e1 : quoV n c = 0 := by unfold quoV; rw [if_neg h0, fit_gt h]
      have e2 : quoE n c = 10 := by unfold quoE; rw [if_neg h0, told_gt h]
      have e4 : upV n c = 0 := by unfold upV upQ; rw [if_neg h0, fit_gt (by omega)]
      have e5 : upE n c = 10 := by unfold upE upQ; rw [if_neg h0, told_gt (by omega)]
      rw [e1, e2] at HO
      rw [e4, e5]
      clear e1 e2 e4 e5
      generalize restV n c = r at *
      go_enter Try.func18, Try.ntmps18
      go_wp2_with fail
      refine (HO.out _).mono ?_
      rintro e w1 ⟨rfl, hb1⟩
      go_wp2_with fail
      go_ret2
      exact ⟨rfl, hb1⟩
end Go.Proofs.Ytecdfphfgaeodaa
