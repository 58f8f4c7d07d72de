/-
  The walks of the statements of layer 2: they answer true whatever the arguments.
-/
import Derived.Test.YtfdjmpaikbaepaaRef02
import Derived.Test.YtfdjmpaikbaepaaRef02b
import Derived.Test.YtfdjmpaikbaepaaFrame
namespace Go.Proofs.Ytfdjmpaikbaepaa
open Go.RowKit
set_option linter.unusedVariables false
open Go.ChangeShapes Go.WideShapes Go.ChangeAt

theorem quo_le {n c : Nat} (h0 : 0 < c) (h : n / c ≤ 18446744073709551615) : quoV n c = n / c ∧ quoE n c = 0 ∧ restV n c = n % c :=
  ⟨by unfold quoV; rw [if_neg (by omega), fit_le h], by unfold quoE; rw [if_neg (by omega), told_le h], by unfold restV; rw [if_neg (by omega), if_pos h]⟩
theorem quo_gt {n c : Nat} (h0 : 0 < c) (h : ¬ n / c ≤ 18446744073709551615) : quoV n c = 0 ∧ quoE n c = 10 ∧ restV n c = 0 ∧ upV n c = 0 ∧ upE n c = 10 :=
  ⟨by unfold quoV; rw [if_neg (by omega), fit_gt h], by unfold quoE; rw [if_neg (by omega), told_gt h], by unfold restV; rw [if_neg (by omega), if_neg h], by unfold upV upQ; rw [if_neg (by omega), fit_gt (by omega)], by unfold upE upQ; rw [if_neg (by omega), told_gt (by omega)]⟩
theorem up_cases {n c : Nat} (h0 : 0 < c) (h : n / c ≤ 18446744073709551615) : (n % c = 0 ∧ upV n c = n / c ∧ upE n c = 0) ∨ (0 < n % c ∧ n / c = 18446744073709551615 ∧ upV n c = 0 ∧ upE n c = 10) ∨ (0 < n % c ∧ n / c < 18446744073709551615 ∧ upV n c = n / c + 1 ∧ upE n c = 0) := by
  unfold upV upE upQ
  have hc : ¬ c = 0 := by omega
  simp only [hc, if_false]
  by_cases hr : n % c = 0
  · left; rw [if_pos hr, Nat.add_zero, fit_le h, told_le h]; exact ⟨hr, rfl, rfl⟩
  · right
    rw [if_neg hr]
    by_cases hm : n / c = 18446744073709551615
    · left; rw [fit_gt (by omega), told_gt (by omega)]; exact ⟨by omega, hm, rfl, rfl⟩
    · right; rw [fit_le (by omega), told_le (by omega)]; exact ⟨by omega, by omega, rfl, rfl⟩
theorem twoB_eq (p a : Nat) : twoB p a = decide (0 < a ∧ 2 * a < 3 * p) := by
  unfold twoB lessB
  rw [Bool.eq_iff_iff]; simp
set_option maxHeartbeats 400000 in
theorem awake02_any (w : World) : Calls Try.prog 39 #[] w fun e w' => e = .returned (.bool true) ∧ Below w.heap.size w w' := by
  have e1 : quoV (7 * 1) 2 = 3 := by decide
  have e2 : quoE (7 * 1) 2 = 0 := by decide
  have e3 : upV (7 * 1) 2 = 4 := by decide
  have e4 : upE (7 * 1) 2 = 0 := by decide
  have e5 : twoB 3 4 = true := by decide
  have e6 : twoB 2 3 = false := by decide
  have HD := Lib.hid (fun W => down_any 7 1 2 (by omega) (by omega) (by omega) W)
  have HU := Lib.hid (fun W => up_any 7 1 2 (by omega) (by omega) (by omega) W)
  have HT := Lib.hid (fun W => two_any 3 4 (by omega) (by omega) W)
  have HS := Lib.hid (fun W => two_any 2 3 (by omega) (by omega) W)
  rw [e1, e2] at HD
  rw [e3, e4] at HU
  rw [e5] at HT
  rw [e6] at HS
  clear e1 e2 e3 e4 e5 e6
  go_enter Try.func39, Try.ntmps39
  go_wp2_with fail
  refine (HD.out _).mono ?_
  rintro e w1 ⟨rfl, hb1⟩
  go_wp2_with fail
  refine (HU.out _).mono ?_
  rintro e w2 ⟨rfl, hb2⟩
  go_wp2_with fail
  refine (HT.out _).mono ?_
  rintro e w3 ⟨rfl, hb3⟩
  go_wp2_with fail
  refine (HS.out _).mono ?_
  rintro e w4 ⟨rfl, hb4⟩
  go_wp2_with fail
  go_ret
  exact ⟨rfl, (by repeat (first | exact Below.refl _ _ | assumption | (refine Below.allocT ?_ _) | refine Below.drew ?_ | refine below_drewN ?_ _ | (refine Below.then ?_ (by assumption)) | (refine Below.setRow ?_ ?_ _; rotate_left; (focus (first | exact Nat.lt_succ_self _ | (simp only [World.size_alloc]; omega) | (simp; done) | (simp; omega) | omega))) | (refine Below.setCell ?_ ?_ _; rotate_left; (focus (first | exact Nat.lt_succ_self _ | (simp only [World.size_alloc]; omega) | (simp; done) | (simp; omega) | omega))) | (refine Below.then' ?_ (by assumption) ?_; rotate_left; (focus (first | exact Nat.lt_succ_self _ | (simp only [World.size_alloc]; omega) | (simp; done) | (simp; omega) | omega))) | fail))⟩
set_option maxHeartbeats 1000000 in
set_option maxRecDepth 100000 in
theorem ratioParts_any (a b c : Nat) (ha : a < 18446744073709551616) (hb : b < 18446744073709551616) (hc : c < 18446744073709551616) (w : World) :
    Calls Try.prog 9 #[.int .u64 a, .int .u64 b, .int .u64 c] w fun e w' => e = .returned (.bool true) ∧ Below w.heap.size w w' := by
  have HD := Lib.hid (fun W => down_any a b c ha hb hc W)
  have HU := Lib.hid (fun W => up_any a b c ha hb hc W)
  have HO := Lib.hid (fun W => over_any a b c ha hb hc W)
  have HRD := Lib.hid (fun W => rdown_any a b c ha hb hc W)
  have HRU := Lib.hid (fun W => rup_any a b c ha hb hc W)
  have HRR := Lib.hid (fun W h => rrest_any a b c ha hb hc h W)
  generalize upV (a * b) c = u at *
  generalize upE (a * b) c = ue at *
  have HC : (quoE (a * b) c = 0 ∧ 0 < c ∧ restV (a * b) c = a * b % c) ∨ (1 ≤ quoE (a * b) c ∧ restV (a * b) c = 0) := by
    rcases Nat.eq_zero_or_pos c with h0 | h0
    · subst h0; right; exact ⟨by show (1 : Int) ≤ 20; omega, rfl⟩
    · by_cases h : a * b / c ≤ 18446744073709551615
      · have := quo_le h0 h; left; exact ⟨this.2.1, h0, this.2.2⟩
      · have := quo_gt h0 h; right; rw [this.2.1]; exact ⟨by omega, this.2.2.1⟩
  generalize quoV (a * b) c = q at *
  generalize quoE (a * b) c = qe at *
  generalize restV (a * b) c = r at *
  generalize a * b % c = m at *
  rcases HC with ⟨rfl, h0, rfl⟩ | ⟨h1, rfl⟩
  · have HRR' := Lib.hid (fun W => HRR.out W h0)
    clear HRR
    go_enter Try.func9, Try.ntmps9
    go_wp2_with fail
    refine (awake02_any _).mono ?_
    rintro e w1 ⟨rfl, hb1⟩
    go_wp2_with fail
    refine (HD.out _).mono ?_
    rintro e w2 ⟨rfl, hb2⟩
    go_wp2_with fail
    refine (HU.out _).mono ?_
    rintro e w3 ⟨rfl, hb3⟩
    go_wp2_with fail
    refine (HO.out _).mono ?_
    rintro e w4 ⟨rfl, hb4⟩
    go_wp2_with fail
    refine (HRD.out _).mono ?_
    rintro e w5 ⟨rfl, hb5⟩
    go_wp2_with fail
    refine (HRU.out _).mono ?_
    rintro e w6 ⟨rfl, hb6⟩
    go_wp2_with fail
    refine (HRR'.out _).mono ?_
    rintro e w7 ⟨rfl, hb7⟩
    go_wp2_with fail
    go_ret
    exact ⟨rfl, (by repeat (first | exact Below.refl _ _ | assumption | (refine Below.allocT ?_ _) | refine Below.drew ?_ | refine below_drewN ?_ _ | (refine Below.then ?_ (by assumption)) | (refine Below.setRow ?_ ?_ _; rotate_left; (focus (first | exact Nat.lt_succ_self _ | (simp only [World.size_alloc]; omega) | (simp; done) | (simp; omega) | omega))) | (refine Below.setCell ?_ ?_ _; rotate_left; (focus (first | exact Nat.lt_succ_self _ | (simp only [World.size_alloc]; omega) | (simp; done) | (simp; omega) | omega))) | (refine Below.then' ?_ (by assumption) ?_; rotate_left; (focus (first | exact Nat.lt_succ_self _ | (simp only [World.size_alloc]; omega) | (simp; done) | (simp; omega) | omega))) | fail))⟩
  · have h2 : (qe == 0) = false := by simp; omega
    have h3 : (qe != 0) = true := by simp; omega
    go_enter Try.func9, Try.ntmps9
    go_wp2_with fail
    refine (awake02_any _).mono ?_
    rintro e w1 ⟨rfl, hb1⟩
    go_wp2_with fail
    refine (HD.out _).mono ?_
    rintro e w2 ⟨rfl, hb2⟩
    go_wp2_with fail
    refine (HU.out _).mono ?_
    rintro e w3 ⟨rfl, hb3⟩
    go_wp2_with fail
    refine (HO.out _).mono ?_
    rintro e w4 ⟨rfl, hb4⟩
    go_wp2_with fail
    refine (HRD.out _).mono ?_
    rintro e w5 ⟨rfl, hb5⟩
    go_wp2_with fail
    refine (HRU.out _).mono ?_
    rintro e w6 ⟨rfl, hb6⟩
    go_wp2_with fail
    go_ret
    exact ⟨rfl, (by repeat (first | exact Below.refl _ _ | assumption | (refine Below.allocT ?_ _) | refine Below.drew ?_ | refine below_drewN ?_ _ | (refine Below.then ?_ (by assumption)) | (refine Below.setRow ?_ ?_ _; rotate_left; (focus (first | exact Nat.lt_succ_self _ | (simp only [World.size_alloc]; omega) | (simp; done) | (simp; omega) | omega))) | (refine Below.setCell ?_ ?_ _; rotate_left; (focus (first | exact Nat.lt_succ_self _ | (simp only [World.size_alloc]; omega) | (simp; done) | (simp; omega) | omega))) | (refine Below.then' ?_ (by assumption) ?_; rotate_left; (focus (first | exact Nat.lt_succ_self _ | (simp only [World.size_alloc]; omega) | (simp; done) | (simp; omega) | omega))) | fail))⟩
set_option maxHeartbeats 1000000 in
set_option maxRecDepth 100000 in
theorem ratioThirds_any (p a : Nat) (hp : p < 18446744073709551616) (ha : a < 18446744073709551616) (w : World) :
    Calls Try.prog 12 #[.int .u64 p, .int .u64 a] w fun e w' => e = .returned (.bool true) ∧ Below w.heap.size w w' := by
  by_cases h1 : 4611686018427387904 < a
  · have i1 : (4611686018427387904 : Int) < (a : Int) := by omega
    go_enter Try.func12, Try.ntmps12
    go_wp2_with fail
    refine (awake02_any _).mono ?_
    rintro e w1 ⟨rfl, hb1⟩
    go_wp2_with fail
    go_ret
    exact ⟨rfl, (by repeat (first | exact Below.refl _ _ | assumption | (refine Below.allocT ?_ _) | refine Below.drew ?_ | refine below_drewN ?_ _ | (refine Below.then ?_ (by assumption)) | (refine Below.setRow ?_ ?_ _; rotate_left; (focus (first | exact Nat.lt_succ_self _ | (simp only [World.size_alloc]; omega) | (simp; done) | (simp; omega) | omega))) | (refine Below.setCell ?_ ?_ _; rotate_left; (focus (first | exact Nat.lt_succ_self _ | (simp only [World.size_alloc]; omega) | (simp; done) | (simp; omega) | omega))) | (refine Below.then' ?_ (by assumption) ?_; rotate_left; (focus (first | exact Nat.lt_succ_self _ | (simp only [World.size_alloc]; omega) | (simp; done) | (simp; omega) | omega))) | fail))⟩
  · have i1 : ¬ (4611686018427387904 : Int) < (a : Int) := by omega
    by_cases h2 : a < p
    · go_enter Try.func12, Try.ntmps12
      go_wp2_with fail
      refine (awake02_any _).mono ?_
      rintro e w1 ⟨rfl, hb1⟩
      go_wp2_with fail
      go_ret
      exact ⟨rfl, (by repeat (first | exact Below.refl _ _ | assumption | (refine Below.allocT ?_ _) | refine Below.drew ?_ | refine below_drewN ?_ _ | (refine Below.then ?_ (by assumption)) | (refine Below.setRow ?_ ?_ _; rotate_left; (focus (first | exact Nat.lt_succ_self _ | (simp only [World.size_alloc]; omega) | (simp; done) | (simp; omega) | omega))) | (refine Below.setCell ?_ ?_ _; rotate_left; (focus (first | exact Nat.lt_succ_self _ | (simp only [World.size_alloc]; omega) | (simp; done) | (simp; omega) | omega))) | (refine Below.then' ?_ (by assumption) ?_; rotate_left; (focus (first | exact Nat.lt_succ_self _ | (simp only [World.size_alloc]; omega) | (simp; done) | (simp; omega) | omega))) | fail))⟩
    · have HT := Lib.hid (fun W => two_any p a hp ha W)
      have HA := Lib.hid (fun W => two_any a a ha ha W)
      have H0 := Lib.hid (fun W => two_any 0 a (by omega) ha W)
      rw [show twoB 0 a = false by rw [twoB_eq]; simp] at H0
      have l1 : 3 * p < 18446744073709551616 := by omega
      have l2 : 2 * a < 18446744073709551616 := by omega
      have l3 : 2 * p < 18446744073709551616 := by omega
      by_cases h3 : 0 < a ∧ 2 * a < 3 * p
      · obtain ⟨h3, h4⟩ := h3
        rw [show twoB p a = true by rw [twoB_eq]; simp; omega] at HT
        rw [show twoB a a = true by rw [twoB_eq]; simp; omega] at HA
        have h5 : a < 2 * p := by omega
        have i5 : (a : Int) < 2 * (p : Int) := by omega
        have i4 : 2 * (a : Int) < 3 * (p : Int) := by omega
        have i3 : 0 < (a : Int) := by omega
        by_cases h6 : a = 1
        · have i6 : ((a : Int) == 1) = true := by simp; omega
          clear h6
          go_enter Try.func12, Try.ntmps12
          go_wp2_with fail
          refine (awake02_any _).mono ?_
          rintro e w1 ⟨rfl, hb1⟩
          go_wp2_with fail
          refine (HT.out _).mono ?_
          rintro e w2 ⟨rfl, hb2⟩
          go_wp2_with fail
          refine (HA.out _).mono ?_
          rintro e w3 ⟨rfl, hb3⟩
          go_wp2_with fail
          refine (H0.out _).mono ?_
          rintro e w4 ⟨rfl, hb4⟩
          go_wp2_with fail
          go_ret
          exact ⟨rfl, (by repeat (first | exact Below.refl _ _ | assumption | (refine Below.allocT ?_ _) | refine Below.drew ?_ | refine below_drewN ?_ _ | (refine Below.then ?_ (by assumption)) | (refine Below.setRow ?_ ?_ _; rotate_left; (focus (first | exact Nat.lt_succ_self _ | (simp only [World.size_alloc]; omega) | (simp; done) | (simp; omega) | omega))) | (refine Below.setCell ?_ ?_ _; rotate_left; (focus (first | exact Nat.lt_succ_self _ | (simp only [World.size_alloc]; omega) | (simp; done) | (simp; omega) | omega))) | (refine Below.then' ?_ (by assumption) ?_; rotate_left; (focus (first | exact Nat.lt_succ_self _ | (simp only [World.size_alloc]; omega) | (simp; done) | (simp; omega) | omega))) | fail))⟩
        · have i6 : ((a : Int) == 1) = false := by simp; omega
          have i7 : ((a : Int) - 1) = ((a - 1 : Nat) : Int) := by omega
          have H1 := Lib.hid (fun W => two_any p (a - 1) hp (by omega) W)
          rw [show twoB p (a - 1) = true by rw [twoB_eq]; simp; omega, ← i7] at H1
          clear i7 h6
          go_enter Try.func12, Try.ntmps12
          go_wp2_with fail
          refine (awake02_any _).mono ?_
          rintro e w1 ⟨rfl, hb1⟩
          go_wp2_with fail
          refine (HT.out _).mono ?_
          rintro e w2 ⟨rfl, hb2⟩
          go_wp2_with fail
          refine (HA.out _).mono ?_
          rintro e w3 ⟨rfl, hb3⟩
          go_wp2_with fail
          refine (H0.out _).mono ?_
          rintro e w4 ⟨rfl, hb4⟩
          go_wp2_with fail
          refine (H1.out _).mono ?_
          rintro e w5 ⟨rfl, hb5⟩
          go_wp2_with fail
          go_ret
          exact ⟨rfl, (by repeat (first | exact Below.refl _ _ | assumption | (refine Below.allocT ?_ _) | refine Below.drew ?_ | refine below_drewN ?_ _ | (refine Below.then ?_ (by assumption)) | (refine Below.setRow ?_ ?_ _; rotate_left; (focus (first | exact Nat.lt_succ_self _ | (simp only [World.size_alloc]; omega) | (simp; done) | (simp; omega) | omega))) | (refine Below.setCell ?_ ?_ _; rotate_left; (focus (first | exact Nat.lt_succ_self _ | (simp only [World.size_alloc]; omega) | (simp; done) | (simp; omega) | omega))) | (refine Below.then' ?_ (by assumption) ?_; rotate_left; (focus (first | exact Nat.lt_succ_self _ | (simp only [World.size_alloc]; omega) | (simp; done) | (simp; omega) | omega))) | fail))⟩
      · rw [show twoB p a = false by rw [twoB_eq]; simpa using h3] at HT
        rcases Nat.eq_zero_or_pos a with h4 | h4
        · subst h4
          obtain rfl : p = 0 := by omega
          rw [show twoB 0 0 = false by decide] at HA
          clear HT H0
          go_enter Try.func12, Try.ntmps12
          go_wp2_with fail
          refine (awake02_any _).mono ?_
          rintro e w1 ⟨rfl, hb1⟩
          go_wp2_with fail
          refine (HA.out _).mono ?_
          rintro e w2 ⟨rfl, hb2⟩
          go_wp2_with fail
          refine (HA.out _).mono ?_
          rintro e w3 ⟨rfl, hb3⟩
          go_wp2_with fail
          refine (HA.out _).mono ?_
          rintro e w4 ⟨rfl, hb4⟩
          go_wp2_with fail
          go_ret
          exact ⟨rfl, (by repeat (first | exact Below.refl _ _ | assumption | (refine Below.allocT ?_ _) | refine Below.drew ?_ | refine below_drewN ?_ _ | (refine Below.then ?_ (by assumption)) | (refine Below.setRow ?_ ?_ _; rotate_left; (focus (first | exact Nat.lt_succ_self _ | (simp only [World.size_alloc]; omega) | (simp; done) | (simp; omega) | omega))) | (refine Below.setCell ?_ ?_ _; rotate_left; (focus (first | exact Nat.lt_succ_self _ | (simp only [World.size_alloc]; omega) | (simp; done) | (simp; omega) | omega))) | (refine Below.then' ?_ (by assumption) ?_; rotate_left; (focus (first | exact Nat.lt_succ_self _ | (simp only [World.size_alloc]; omega) | (simp; done) | (simp; omega) | omega))) | fail))⟩
        · rw [show twoB a a = true by rw [twoB_eq]; simp; omega] at HA
          have i4 : ¬ 2 * (a : Int) < 3 * (p : Int) := by omega
          have i3 : 0 < (a : Int) := by omega
          clear h3
          go_enter Try.func12, Try.ntmps12
          go_wp2_with fail
          refine (awake02_any _).mono ?_
          rintro e w1 ⟨rfl, hb1⟩
          go_wp2_with fail
          refine (HT.out _).mono ?_
          rintro e w2 ⟨rfl, hb2⟩
          go_wp2_with fail
          refine (HA.out _).mono ?_
          rintro e w3 ⟨rfl, hb3⟩
          go_wp2_with fail
          refine (H0.out _).mono ?_
          rintro e w4 ⟨rfl, hb4⟩
          go_wp2_with fail
          go_ret
          exact ⟨rfl, (by repeat (first | exact Below.refl _ _ | assumption | (refine Below.allocT ?_ _) | refine Below.drew ?_ | refine below_drewN ?_ _ | (refine Below.then ?_ (by assumption)) | (refine Below.setRow ?_ ?_ _; rotate_left; (focus (first | exact Nat.lt_succ_self _ | (simp only [World.size_alloc]; omega) | (simp; done) | (simp; omega) | omega))) | (refine Below.setCell ?_ ?_ _; rotate_left; (focus (first | exact Nat.lt_succ_self _ | (simp only [World.size_alloc]; omega) | (simp; done) | (simp; omega) | omega))) | (refine Below.then' ?_ (by assumption) ?_; rotate_left; (focus (first | exact Nat.lt_succ_self _ | (simp only [World.size_alloc]; omega) | (simp; done) | (simp; omega) | omega))) | fail))⟩
set_option maxHeartbeats 2000000 in
set_option maxRecDepth 100000 in
theorem ratioRises_any (a b c : Nat) (ha : a < 18446744073709551616) (hb : b < 18446744073709551616) (hc : c < 18446744073709551616) (w : World) :
    Calls Try.prog 11 #[.int .u64 a, .int .u64 b, .int .u64 c] w fun e w' => e = .returned (.bool true) ∧ Below w.heap.size w w' := by
  have HD := Lib.hid (fun W => down_any a b c ha hb hc W)
  rcases Nat.eq_zero_or_pos c with h0 | h0
  · subst h0
    rw [show quoE (a * b) 0 = 20 from rfl] at HD
    generalize quoV (a * b) 0 = q at *
    by_cases hm : a = 18446744073709551615
    all_goals
      have i1 : ((a : Int) == 18446744073709551615) = decide (a = 18446744073709551615) := by rw [Bool.eq_iff_iff]; simp; omega
      simp only [hm, decide_true, decide_false] at i1
      have I1 := Lib.hid i1
      clear i1
      first | subst hm | clear hm
      have i1 := I1.out
      go_enter Try.func11, Try.ntmps11
      go_wp2_with fail
      refine (awake02_any _).mono ?_
      rintro e w1 ⟨rfl, hb1⟩
      go_wp2_with fail
      refine (HD.out _).mono ?_
      rintro e w2 ⟨rfl, hb2⟩
      go_wp2_with fail
      go_ret
      exact ⟨rfl, (by repeat (first | exact Below.refl _ _ | assumption | (refine Below.allocT ?_ _) | refine Below.drew ?_ | refine below_drewN ?_ _ | (refine Below.then ?_ (by assumption)) | (refine Below.setRow ?_ ?_ _; rotate_left; (focus (first | exact Nat.lt_succ_self _ | (simp only [World.size_alloc]; omega) | (simp; done) | (simp; omega) | omega))) | (refine Below.setCell ?_ ?_ _; rotate_left; (focus (first | exact Nat.lt_succ_self _ | (simp only [World.size_alloc]; omega) | (simp; done) | (simp; omega) | omega))) | (refine Below.then' ?_ (by assumption) ?_; rotate_left; (focus (first | exact Nat.lt_succ_self _ | (simp only [World.size_alloc]; omega) | (simp; done) | (simp; omega) | omega))) | fail))⟩
  · have j0 : ((c : Int) == 0) = false := by simp; omega
    have j1 : 0 < (c : Int) := by omega
    by_cases hm : a = 18446744073709551615
    · have i1 : ((a : Int) == 18446744073709551615) = true := by simp; omega
      clear hm
      generalize quoV (a * b) c = q at *
      generalize quoE (a * b) c = qe at *
      go_enter Try.func11, Try.ntmps11
      go_wp2_with fail
      refine (awake02_any _).mono ?_
      rintro e w1 ⟨rfl, hb1⟩
      go_wp2_with fail
      refine (HD.out _).mono ?_
      rintro e w2 ⟨rfl, hb2⟩
      go_wp2_with fail
      go_ret
      exact ⟨rfl, (by repeat (first | exact Below.refl _ _ | assumption | (refine Below.allocT ?_ _) | refine Below.drew ?_ | refine below_drewN ?_ _ | (refine Below.then ?_ (by assumption)) | (refine Below.setRow ?_ ?_ _; rotate_left; (focus (first | exact Nat.lt_succ_self _ | (simp only [World.size_alloc]; omega) | (simp; done) | (simp; omega) | omega))) | (refine Below.setCell ?_ ?_ _; rotate_left; (focus (first | exact Nat.lt_succ_self _ | (simp only [World.size_alloc]; omega) | (simp; done) | (simp; omega) | omega))) | (refine Below.then' ?_ (by assumption) ?_; rotate_left; (focus (first | exact Nat.lt_succ_self _ | (simp only [World.size_alloc]; omega) | (simp; done) | (simp; omega) | omega))) | fail))⟩
    · have i1 : ((a : Int) == 18446744073709551615) = false := by simp; omega
      have i2 : (a : Int) + 1 = ((a + 1 : Nat) : Int) := by omega
      have HY := Lib.hid (fun W => down_any (a + 1) b c (by omega) hb hc W)
      rw [← i2] at HY
      have HO := Lib.hid (fun W => over_any a b c ha hb hc W)
      have HZ := Lib.hid (fun W => up_any a b c ha hb hc W)
      have hmono : a * b / c ≤ (a + 1) * b / c := Nat.div_le_div_right (Nat.mul_le_mul_right b (by omega))
      have hle : a ≤ 18446744073709551614 := by omega
      clear hm HD i2 ha
      by_cases h : a * b / c ≤ 18446744073709551615
      · obtain ⟨e1, e2, e3⟩ := quo_le h0 h
        rw [e1, e2, e3] at HO
        have hr := Nat.mod_lt (a * b) h0
        have hdm := Nat.div_add_mod (a * b) c
        have F3 : IntKind.u64.wrap ((a : Int) * (b : Int)) = ((a * b % 18446744073709551616 : Nat) : Int) := by rw [← Int.natCast_mul]; exact Bits.wrapM _
        have HU := up_cases h0 h
        have HYc : quoE ((a + 1) * b) c = 10 ∨ (quoE ((a + 1) * b) c = 0 ∧ quoV ((a + 1) * b) c = (a + 1) * b / c) := by
          by_cases h' : (a + 1) * b / c ≤ 18446744073709551615
          · have := quo_le h0 h'; exact .inr ⟨this.2.1, this.1⟩
          · have := quo_gt h0 h'; exact .inl this.2.1
        clear e1 e2 e3
        generalize (a + 1) * b / c = y0 at *
        generalize quoV ((a + 1) * b) c = y at *
        generalize quoE ((a + 1) * b) c = ye at *
        generalize upV (a * b) c = z at *
        generalize upE (a * b) c = ze at *
        generalize a * b % c = r at *
        generalize a * b / c = x at *
        generalize a * b = n at *
        obtain ⟨m, hmm⟩ : ∃ m, m = n % 18446744073709551616 := ⟨_, rfl⟩
        rw [← hmm] at F3
        obtain ⟨p, hp⟩ : ∃ p, p = c * x := ⟨_, rfl⟩
        rw [← hp] at hdm
        obtain ⟨p1, hp1⟩ : ∃ p1, p1 = p % 18446744073709551616 := ⟨_, rfl⟩
        have F1 : IntKind.u64.wrap ((x : Int) * (c : Int)) = (p1 : Int) := by
          rw [Int.mul_comm, ← Int.natCast_mul, ← hp, hp1]; exact Bits.wrapM _
        have F2 : IntKind.u64.wrap ((p1 : Int) + (r : Int)) = (m : Int) := by
          rw [IntKind.wrap_u64]; omega
        have hyx : ye = 10 ∨ (ye = 0 ∧ x ≤ y) := by
          rcases HYc with h | ⟨h, h'⟩
          · exact .inl h
          · exact .inr ⟨h, by omega⟩
        have hzx : (ze = 10) ∨ (ze = 0 ∧ r = 0 ∧ z = x) ∨ (ze = 0 ∧ 0 < r ∧ x < 18446744073709551615 ∧ z = x + 1) := by
          rcases HU with ⟨h1, h2, h3⟩ | ⟨_, _, _, h3⟩ | ⟨h1, h4, h2, h3⟩
          · exact .inr (.inl ⟨h3, h1, h2⟩)
          · exact .inl h3
          · exact .inr (.inr ⟨h3, h1, h4, h2⟩)
        clear HU HYc hmm hp hp1 hdm hmono
        rcases hyx with rfl | ⟨rfl, hyx⟩
        all_goals rcases hzx with rfl | ⟨rfl, rfl, rfl⟩ | ⟨rfl, k1, k2, rfl⟩
        all_goals
          try have k3 : ((z : Int) == (x : Int) + 1) = true := by simp; omega
          try have k4 : ((((x + 1 : Nat) : Nat) : Int) == (x : Int)) = false := by simp; omega
          try have k4' : ((x : Int) + 1 == (x : Int)) = false := by simp; omega
          try have k5 : 0 < (r : Int) := by omega
          go_enter Try.func11, Try.ntmps11
          go_wp2_with fail
          refine (awake02_any _).mono ?_
          rintro e w1 ⟨rfl, hb1⟩
          go_wp2_with fail
          refine (HO.out _).mono ?_
          rintro e w2 ⟨rfl, hb2⟩
          go_wp2_with fail
          refine (HY.out _).mono ?_
          rintro e w3 ⟨rfl, hb3⟩
          go_wp2_with fail
          refine (HZ.out _).mono ?_
          rintro e w4 ⟨rfl, hb4⟩
          go_wp2_with fail
          go_ret
          exact ⟨rfl, (by repeat (first | exact Below.refl _ _ | assumption | (refine Below.allocT ?_ _) | refine Below.drew ?_ | refine below_drewN ?_ _ | (refine Below.then ?_ (by assumption)) | (refine Below.setRow ?_ ?_ _; rotate_left; (focus (first | exact Nat.lt_succ_self _ | (simp only [World.size_alloc]; omega) | (simp; done) | (simp; omega) | omega))) | (refine Below.setCell ?_ ?_ _; rotate_left; (focus (first | exact Nat.lt_succ_self _ | (simp only [World.size_alloc]; omega) | (simp; done) | (simp; omega) | omega))) | (refine Below.then' ?_ (by assumption) ?_; rotate_left; (focus (first | exact Nat.lt_succ_self _ | (simp only [World.size_alloc]; omega) | (simp; done) | (simp; omega) | omega))) | fail))⟩
      · obtain ⟨e1, e2, e3, e4, e5⟩ := quo_gt h0 h
        obtain ⟨e6, e7, e8, e9, e10⟩ := quo_gt h0 (n := (a + 1) * b) (by omega)
        rw [e1, e2, e3] at HO
        rw [e4, e5] at HZ
        rw [e6, e7] at HY
        clear e1 e2 e3 e4 e5 e6 e7 e8 e9 e10 h hmono
        go_enter Try.func11, Try.ntmps11
        go_wp2_with fail
        refine (awake02_any _).mono ?_
        rintro e w1 ⟨rfl, hb1⟩
        go_wp2_with fail
        refine (HO.out _).mono ?_
        rintro e w2 ⟨rfl, hb2⟩
        go_wp2_with fail
        refine (HY.out _).mono ?_
        rintro e w3 ⟨rfl, hb3⟩
        go_wp2_with fail
        refine (HZ.out _).mono ?_
        rintro e w4 ⟨rfl, hb4⟩
        go_wp2_with fail
        go_ret
        exact ⟨rfl, (by repeat (first | exact Below.refl _ _ | assumption | (refine Below.allocT ?_ _) | refine Below.drew ?_ | refine below_drewN ?_ _ | (refine Below.then ?_ (by assumption)) | (refine Below.setRow ?_ ?_ _; rotate_left; (focus (first | exact Nat.lt_succ_self _ | (simp only [World.size_alloc]; omega) | (simp; done) | (simp; omega) | omega))) | (refine Below.setCell ?_ ?_ _; rotate_left; (focus (first | exact Nat.lt_succ_self _ | (simp only [World.size_alloc]; omega) | (simp; done) | (simp; omega) | omega))) | (refine Below.then' ?_ (by assumption) ?_; rotate_left; (focus (first | exact Nat.lt_succ_self _ | (simp only [World.size_alloc]; omega) | (simp; done) | (simp; omega) | omega))) | fail))⟩
theorem four_under : Try.prog.underlying 64 = some (.struct (Try.prog.fieldsOf 64)) := by kernel_rfl
set_option maxRecDepth 100000 in
theorem open_four {H : Type} {enc : TypeId × Value → H} {W : World} {base : Nat} {spare : Nat → Bool} {held : Bool} {r : Reach} {b0 : Nat} {v : Value} {d : DataW H} {p : List MemPlace}
    (hv : Value.okWide Try.prog W r b0 64 v) (h : DataW.Trod enc Try.prog W base spare held 64 v d p) : ∃ (a b c d : Nat), v = .agg #[.int .u64 a, .int .u64 b, .int .u64 c, .int .u64 d] ∧ a < 18446744073709551616 ∧ b < 18446744073709551616 ∧ c < 18446744073709551616 ∧ d < 18446744073709551616 := by
  obtain ⟨⟨l⟩, rfl, _⟩ := okWide_struct four_under hv
  obtain ⟨fuel, hf⟩ := h
  obtain ⟨hlen, hF⟩ := flat_cells four_under hf
  have hlen' : l.length = 4 := hlen.trans (by kernel_rfl)
  obtain ⟨a0, e0, o0⟩ := at_u64 under_u64 cells_u64 (hF 0 22 0 (by kernel_rfl))
  obtain ⟨a1, e1, o1⟩ := at_u64 under_u64 cells_u64 (hF 1 22 1 (by kernel_rfl))
  obtain ⟨a2, e2, o2⟩ := at_u64 under_u64 cells_u64 (hF 2 22 2 (by kernel_rfl))
  obtain ⟨a3, e3, o3⟩ := at_u64 under_u64 cells_u64 (hF 3 22 3 (by kernel_rfl))
  have hl : l = [.int .u64 a0, .int .u64 a1, .int .u64 a2, .int .u64 a3] := list_ext 4 hlen' rfl (fun i hi => by
    match i with
    | 0 => exact e0
    | 1 => exact e1
    | 2 => exact e2
    | 3 => exact e3
    | n + 4 => omega)
  subst hl
  exact ⟨a0, a1, a2, a3, rfl, o0, o1, o2, o3⟩

set_option maxHeartbeats 1000000 in
set_option maxRecDepth 100000 in
theorem ratioLess_any (a b c d : Nat) (ha : a < 18446744073709551616) (hb : b < 18446744073709551616) (hc : c < 18446744073709551616) (hd : d < 18446744073709551616) (w : World) :
    Calls Try.prog 10 #[.agg #[.int .u64 a, .int .u64 b, .int .u64 c, .int .u64 d]] w fun e w' => e = .returned (.bool true) ∧ Below w.heap.size w w' := by
  have H1 := Lib.hid (fun W => less_any a b c d ha hb hc hd W)
  have H2 := Lib.hid (fun W => rless_any a b c d ha hb hc hd W)
  have H3 := Lib.hid (fun W => two_any a b ha hb W)
  have H4 := Lib.hid (fun W => rtwo_any a b ha hb W)
  generalize lessB a b c d = lb at *
  generalize twoB a b = tb at *
  cases lb
  all_goals cases tb
  all_goals
    go_enter Try.func10, Try.ntmps10
    go_wp2_with fail
    refine (awake02_any _).mono ?_
    rintro e w1 ⟨rfl, hb1⟩
    have hr1 : row w1 w.heap.size = some #[.int .u64 a, .int .u64 b, .int .u64 c, .int .u64 d] := (row_below hb1 (g := w.heap.size) (by simp)).trans (by repeat (first | assumption | (refine row_at _ _ _ _ ?_; first | rfl | (simp only [World.size_alloc]; done) | (simp only [World.size_alloc]; omega)) | (refine (row_past _ _ _ ?_).trans ?_; (focus (first | exact Nat.lt_succ_self _ | (simp only [World.size_alloc]; omega) | (simp; done) | (simp; omega) | omega))) | rw [row_drewN] | rw [row_drew]))
    have hB : Below w.heap.size w w1 := (by repeat (first | exact Below.refl _ _ | assumption | (refine Below.allocT ?_ _) | refine Below.drew ?_ | refine below_drewN ?_ _ | (refine Below.then ?_ (by assumption)) | (refine Below.setRow ?_ ?_ _; rotate_left; (focus (first | exact Nat.lt_succ_self _ | (simp only [World.size_alloc]; omega) | (simp; done) | (simp; omega) | omega))) | (refine Below.setCell ?_ ?_ _; rotate_left; (focus (first | exact Nat.lt_succ_self _ | (simp only [World.size_alloc]; omega) | (simp; done) | (simp; omega) | omega))) | (refine Below.then' ?_ (by assumption) ?_; rotate_left; (focus (first | exact Nat.lt_succ_self _ | (simp only [World.size_alloc]; omega) | (simp; done) | (simp; omega) | omega))) | fail))
    clear hb1
    go_wp2_with fail
    have HM : Hid (∀ w', Below w1.heap.size w1 w' → (∀ i, w'.cell? ⟨w.heap.size, i, none⟩ = #[Value.int .u64 a, Value.int .u64 b, Value.int .u64 c, Value.int .u64 d][i]?)) := Lib.hid fun w' h =>
      fun i => row_cell ((row_below h (row_lt hr1)).trans hr1) i
    (refine wp_region_calm (by kernel_rfl) (by kernel_rfl) ?_; (repeat (first | (refine wpQuiet_step (fun K hK => ?_); apply calm_no; (focus (go_simp; done)); (go_simp; refine hK _ ?_; clear hK K)) | (refine wpQuiet_step (fun K hK => ?_); apply calm_go; (focus (go_simp; done)); (focus (intro w' hb'; have c3 := HM.out w' hb'; first | (unfold Oper.quietAt; go_simp; first | rfl | (go_at_call 46; exact calm_call hb' (H1.out _)) | (go_at_call 47; exact calm_call hb' (H2.out _)) | (go_at_call 48; exact calm_call hb' (H3.out _)) | (go_at_call 49; exact calm_call hb' (H4.out _))))); (go_simp; refine hK _ ?_; clear hK K)))); refine wpQuiet_nil ?_; intro w' hb')
    go_wp2_with fail
    go_ret
    exact ⟨rfl, (by repeat (first | exact Below.refl _ _ | assumption | (refine Below.allocT ?_ _) | refine Below.drew ?_ | refine below_drewN ?_ _ | (refine Below.then ?_ (by assumption)) | (refine Below.setRow ?_ ?_ _; rotate_left; (focus (first | exact Nat.lt_succ_self _ | (simp only [World.size_alloc]; omega) | (simp; done) | (simp; omega) | omega))) | (refine Below.setCell ?_ ?_ _; rotate_left; (focus (first | exact Nat.lt_succ_self _ | (simp only [World.size_alloc]; omega) | (simp; done) | (simp; omega) | omega))) | (refine Below.then' ?_ (by assumption) ?_; rotate_left; (focus (first | exact Nat.lt_succ_self _ | (simp only [World.size_alloc]; omega) | (simp; done) | (simp; omega) | omega))) | fail))⟩
end Go.Proofs.Ytfdjmpaikbaepaa
