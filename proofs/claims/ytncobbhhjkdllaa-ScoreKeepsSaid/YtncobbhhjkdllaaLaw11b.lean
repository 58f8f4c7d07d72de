/-
  The walk of ScoreMounts: it answers true whatever the arguments.
-/
import Derived.Test.YtncobbhhjkdllaaLaw11
namespace Go.Proofs.Ytncobbhhjkdllaa
open Go.RowKit
set_option linter.unusedVariables false

theorem size_setRow (w : World) (g : Nat) (cs : Array Value) : (w.setRow g cs).heap.size = w.heap.size := by unfold World.setRow; simp
def MountRel (P : Par) (s : St) (j : Nat) (c : Nat) (k : Int) : Prop := c < 18446744073709551616 ∧ i64ok k ∧ min P.scoreCap (P.bias * j) ≤ c
theorem away_lt {P : Par} {s : St} {m : Int} (hs : s.score < 18446744073709551616) (h1 : P.scoreCap < 18446744073709551616) : (awayS P s m).score < 18446744073709551616 := by
  unfold awayS
  simp only []
  split
  · omega
  · split <;> omega
set_option maxHeartbeats 4000000 in
set_option maxRecDepth 100000 in
theorem scoreMounts_any (P : Par) (s : St) (t : Int) (hs : s.Ok) (ht : i64ok t) (w : World) :
    Calls Try.prog 6 #[.agg P.cells, .agg s.cells, .int .i64 t] w fun e w' => e = .returned (.bool true) ∧ Below w.heap.size w w' := by
  have r0 : row ((w.alloc (.cells P.cells 24)).alloc (.cells s.cells 41)) w.heap.size = some P.cells := (by (repeat (first | assumption | (refine row_at _ _ _ _ ?_; first | rfl | (simp only [World.size_alloc]; done) | (simp only [World.size_alloc]; omega)) | (refine (row_past _ _ _ ?_).trans ?_; (focus (first | exact Nat.lt_succ_self _ | ((repeat rw [World.size_alloc]); omega) | (simp; done) | (simp; omega) | omega))) | rw [row_drewN] | rw [row_drew])); (first | done | fail))
  have s0 : row ((w.alloc (.cells P.cells 24)).alloc (.cells s.cells 41)) (w.heap.size + 1) = some s.cells := (by (repeat (first | assumption | (refine row_at _ _ _ _ ?_; first | rfl | (simp only [World.size_alloc]; done) | (simp only [World.size_alloc]; omega)) | (refine (row_past _ _ _ ?_).trans ?_; (focus (first | exact Nat.lt_succ_self _ | ((repeat rw [World.size_alloc]); omega) | (simp; done) | (simp; omega) | omega))) | rw [row_drewN] | rw [row_drew])); (first | done | fail))
  have hB0 : Below w.heap.size w ((w.alloc (.cells P.cells 24)).alloc (.cells s.cells 41)) := (by (repeat (first | exact Below.refl _ _ | assumption | (refine Below.allocT ?_ _) | refine Below.drew ?_ | refine below_drewN ?_ _ | (refine Below.then ?_ (by assumption)) | (refine Below.setRow ?_ ?_ _; rotate_left; (focus (first | exact Nat.lt_succ_self _ | ((repeat rw [World.size_alloc]); omega) | (simp; done) | (simp; omega) | omega))) | (refine Below.setCell ?_ ?_ _; rotate_left; (focus (first | exact Nat.lt_succ_self _ | ((repeat rw [World.size_alloc]); omega) | (simp; done) | (simp; omega) | omega))) | (refine Below.then' ?_ (by assumption) ?_; rotate_left; (focus (first | exact Nat.lt_succ_self _ | ((repeat rw [World.size_alloc]); omega) | (simp; done) | (simp; omega) | omega))) | fail)); (first | done | fail))
  have HR := Lib.hid (fun W => right_any P W)
  unfold i64ok at ht
  cases hr : rightB P
  · rw [hr] at HR
    clear hr
    go_enter Try.func6, Try.ntmps6
    go_wp2_with fail
    generalize (w.alloc (.cells P.cells 24)).alloc (.cells s.cells 41) = W at *
    refine (awake11_any _).mono ?_
    rintro e w1 ⟨rfl, hb1⟩
    have r1 := (row_below hb1 (row_lt r0)).trans r0
    have s1 := (row_below hb1 (row_lt s0)).trans s0
    have hB1 := Below.then hB0 hb1
    clear r0 s0 hB0 hb1
    go_wp2_with fail
    refine (plain_any P _).mono ?_
    rintro e w2 ⟨rfl, hb2⟩
    have hB2 := Below.then hB1 hb2
    clear hB1 hb2
    go_wp2_with fail
    refine (HR.out _).mono ?_
    rintro e w3 ⟨rfl, hb3⟩
    have hB3 := Below.then hB2 hb3
    clear hB2 hb3
    go_wp2_with fail
    go_ret
    exact ⟨rfl, hB3⟩
  · rw [hr] at HR
    by_cases hin : 0 ≤ t ∧ t ≤ 100
    · have HA := Lib.hid (fun (c : Nat) (k : Int) (m : Int) (h : c < 18446744073709551616) (hk : i64ok k) W => safter_any P ⟨s.bal, s.eff, c, k⟩ false m ⟨hs.bal, hs.eff, h, hk⟩ W)
      have HAw : Hid (∀ c k m, afterV P ⟨s.bal, s.eff, c, k⟩ false m = ⟨s.bal, s.eff, (awayS P ⟨s.bal, s.eff, c, k⟩ m).score, 0⟩) := Lib.hid fun c k m => by simp [afterV, afterS, hr]; rfl
      have HP := Lib.hid (right_scores hr)
      have HP1 : Hid (1 ≤ P.bias ∧ P.bias ≤ 4294967296 ∧ P.bias ≤ P.biasEm) := Lib.hid (by have := scores_facts (right_facts hr).2.1; omega)
      obtain ⟨t, rfl⟩ := Int.eq_ofNat_of_zero_le hin.1
      have ht0 := hin.2
      have hs1 := hs.score
      have hs2 := hs.streak
      clear hr hin ht
      go_enter Try.func6, Try.ntmps6
      go_wp2_with fail
      generalize (w.alloc (.cells P.cells 24)).alloc (.cells s.cells 41) = W at *
      refine (awake11_any _).mono ?_
      rintro e w1 ⟨rfl, hb1⟩
      have r1 := (row_below hb1 (row_lt r0)).trans r0
      have s1 := (row_below hb1 (row_lt s0)).trans s0
      have hB1 := Below.then hB0 hb1
      clear r0 s0 hB0 hb1
      go_wp2_with fail
      refine (plain_any P _).mono ?_
      rintro e w2 ⟨rfl, hb2⟩
      have r2 := (row_below hb2 (row_lt r1)).trans r1
      have s2 := (row_below hb2 (row_lt s1)).trans s1
      have hB2 := Below.then hB1 hb2
      clear r1 s1 hB1 hb2
      go_wp2_with fail
      refine (HR.out _).mono ?_
      rintro e w3 ⟨rfl, hb3⟩
      have ra := (row_below hb3 (row_lt r2)).trans r2
      have sa := (row_below hb3 (row_lt s2)).trans s2
      have hBa := Below.then hB2 hb3
      clear r2 s2 hB2 hb3
      go_wp2_with fail
      have r3 : row (w3.alloc (.cells s.cells 41)) w.heap.size = some P.cells := (row_past _ _ _ (row_lt ra)).trans ra
      have s3 : row (w3.alloc (.cells s.cells 41)) (w.heap.size + 1) = some s.cells := (row_past _ _ _ (row_lt sa)).trans sa
      have a3 : row (w3.alloc (.cells s.cells 41)) w3.heap.size = some s.cells := row_at _ _ _ _ rfl
      have hB3 : Below w.heap.size w (w3.alloc (.cells s.cells 41)) := (by (repeat (first | exact Below.refl _ _ | assumption | (refine Below.allocT ?_ _) | refine Below.drew ?_ | refine below_drewN ?_ _ | (refine Below.then ?_ (by assumption)) | (refine Below.setRow ?_ ?_ _; rotate_left; (focus (first | exact Nat.lt_succ_self _ | ((repeat rw [World.size_alloc]); omega) | (simp; done) | (simp; omega) | omega))) | (refine Below.setCell ?_ ?_ _; rotate_left; (focus (first | exact Nat.lt_succ_self _ | ((repeat rw [World.size_alloc]); omega) | (simp; done) | (simp; omega) | omega))) | (refine Below.then' ?_ (by assumption) ?_; rotate_left; (focus (first | exact Nat.lt_succ_self _ | ((repeat rw [World.size_alloc]); omega) | (simp; done) | (simp; omega) | omega))) | fail)); (first | done | fail))
      have hg1 := row_lt sa
      have hg0 := row_lt ra
      clear ra sa hBa
      generalize w3.alloc (.cells s.cells 41) = V at *
      generalize w3.heap.size = g at *
      go_loopw [27] (fun i wr => ∃ (j c : Nat) (k : Int), i = .int .i64 j ∧ j ≤ t ∧ Hid (MountRel P s j c k) ∧ row wr w.heap.size = some P.cells ∧ row wr (w.heap.size + 1) = some s.cells ∧ row wr g = some (St.cells ⟨s.bal, s.eff, c, k⟩) ∧ Below w.heap.size w wr) (fun i _ => t - (intOf i).toNat)
      case atStart => exact ⟨0, s.score, s.streak, rfl, by omega, Lib.hid ⟨hs1, hs2, by simp⟩, r3, s3, a3, hB3⟩
      case round =>
        obtain ⟨j, c, k, rfl, hj, hM, p1, q1, a1, hB⟩ := hrel
        clear r3 s3 a3 hB3
        by_cases hlt : j < t
        · have HN : Hid (∃ (m : Int) (n j1 T : Nat), j1 = j + 1 ∧ T = P.bias * j1 ∧ T ≤ 433791696896 ∧ ((m = 4 ∧ j % 3 = 2) ∨ (m = 3 ∧ ¬ j % 3 = 2)) ∧ n = (awayS P ⟨s.bal, s.eff, c, k⟩ m).score ∧ n ≤ P.scoreCap ∧ min P.scoreCap T ≤ n ∧ min c P.scoreCap ≤ n) := Lib.hid (by
            have hm3 := hM.out.2.2
            obtain ⟨b1, b2, b3⟩ := HP1.out
            obtain ⟨T0, hT0⟩ : ∃ T0, T0 = P.bias * j := ⟨_, rfl⟩
            have hTT : P.bias * (j + 1) = T0 + P.bias := by rw [hT0]; rfl
            have hle : P.bias * (j + 1) ≤ 4294967296 * 101 := Nat.mul_le_mul b2 (by omega)
            rw [← hT0] at hm3
            by_cases h3 : j % 3 = 2
            · refine ⟨4, _, _, _, rfl, rfl, by omega, .inl ⟨rfl, h3⟩, rfl, ?_, ?_, ?_⟩
              all_goals simp [awayS]
              all_goals (try rw [hTT])
              all_goals omega
            · refine ⟨3, _, _, _, rfl, rfl, by omega, .inr ⟨rfl, h3⟩, rfl, ?_, ?_, ?_⟩
              all_goals simp [awayS]
              all_goals (try rw [hTT])
              all_goals omega)
          obtain ⟨m, n, j1, T, hj1, hT, hTb, hm, hn, n1, n2, n3⟩ := HN.out
          have hnn := HP.out.2.2.1
          have E0 : IntKind.u64.wrap ((j : Int) + 1) = ((j1 : Nat) : Int) := by rw [show (j : Int) + 1 = ((j1 : Nat) : Int) by omega]; exact Bits.wrapN _ (by omega)
          have E1 : IntKind.u64.wrap ((P.bias : Int) * (j1 : Int)) = (T : Int) := by rw [← Int.natCast_mul, ← hT]; exact Bits.wrapN _ (by omega)
          have HX : Hid (∀ W : World, Calls Try.prog 25 #[.agg P.cells, .agg (St.cells ⟨s.bal, s.eff, c, k⟩), .bool false, .int .i64 m] W fun e w' => e = .returned (.agg (St.cells ⟨s.bal, s.eff, n, 0⟩)) ∧ Below W.heap.size W w') := Lib.hid fun W => by
            have h := HA.out c k m hM.out.1 hM.out.2.1 W
            rw [HAw.out, ← hn] at h
            exact h
          have HJ : Hid (MountRel P s (j + 1) n 0) := Lib.hid ⟨by omega, by unfold i64ok; omega, by rw [← hj1, ← hT]; exact n2⟩
          clear HN hn hT hj1 hM HA HAw hnn
          have l0 := row_lt p1
          have l1 := row_lt q1
          have lg := row_lt a1
          have ne0 : w.heap.size ≠ g := by omega
          have ne1 : w.heap.size + 1 ≠ g := by omega
          have hmv : ((j : Int) % 3 == 2) = decide (j % 3 = 2) := by rw [Bool.eq_iff_iff]; simp; omega
          rcases hm with ⟨rfl, hm⟩ | ⟨rfl, hm⟩
          all_goals by_cases h1 : T < P.scoreCap
          all_goals by_cases h2 : P.scoreCap < c
          all_goals
            rw [show decide (j % 3 = 2) = _ from by first | exact decide_eq_true hm | exact decide_eq_false hm | fail] at hmv
            first | rw [Nat.min_eq_right (show T ≤ P.scoreCap by omega)] at n2 | rw [Nat.min_eq_left (show P.scoreCap ≤ T by omega)] at n2 | fail
            first | rw [Nat.min_eq_right (show P.scoreCap ≤ c by omega)] at n3 | rw [Nat.min_eq_left (show c ≤ P.scoreCap by omega)] at n3 | fail
            clear hm
            go_wp2_with fail
            refine (HX.out _).mono ?_
            rintro e wa ⟨rfl, hba⟩
            have p2 := (row_below hba l0).trans p1
            have q2 := (row_below hba l1).trans q1
            have a2 := (row_below hba lg).trans a1
            have m0 := row_lt p2
            have m1 := row_lt q2
            have mg := row_lt a2
            have hB2 : Below w.heap.size w wa := hB.trans (hba.mono hB.size)
            have c1 : ∀ i, wa.cell? ⟨w.heap.size, i, none⟩ = P.cells[i]? := fun i => row_cell p2 i
            have c2 : ∀ i, wa.cell? ⟨w.heap.size + 1, i, none⟩ = s.cells[i]? := fun i => row_cell q2 i
            have c3 : ∀ i, wa.cell? ⟨g, i, none⟩ = (St.cells ⟨s.bal, s.eff, c, k⟩)[i]? := fun i => row_cell a2 i
            clear p1 q1 a1 hB hba
            go_wp2_with fail
            exact ⟨⟨j + 1, n, 0, by go_num, by omega, HJ, (row_past _ _ _ (by rw [size_setRow]; exact m0)).trans ((row_setRow_far (Ne.symm ne0)).trans p2), (row_past _ _ _ (by rw [size_setRow]; exact m1)).trans ((row_setRow_far (Ne.symm ne1)).trans q2), (row_past _ _ _ (by rw [size_setRow]; exact mg)).trans (row_setRow a2), (by (repeat (first | exact Below.refl _ _ | assumption | (refine Below.allocT ?_ _) | refine Below.drew ?_ | refine below_drewN ?_ _ | (refine Below.then ?_ (by assumption)) | (refine Below.setRow ?_ ?_ _; rotate_left; (focus (first | exact Nat.lt_succ_self _ | ((repeat rw [World.size_alloc]); omega) | (simp; done) | (simp; omega) | omega))) | (refine Below.setCell ?_ ?_ _; rotate_left; (focus (first | exact Nat.lt_succ_self _ | ((repeat rw [World.size_alloc]); omega) | (simp; done) | (simp; omega) | omega))) | (refine Below.then' ?_ (by assumption) ?_; rotate_left; (focus (first | exact Nat.lt_succ_self _ | ((repeat rw [World.size_alloc]); omega) | (simp; done) | (simp; omega) | omega))) | fail)); (first | done | fail))⟩, by simp [intOf]; omega⟩
        · obtain rfl : j = t := by omega
          go_wp2_with fail
          go_ret
          exact ⟨rfl, hB⟩
    · have hin' : (t < 0) ∨ (¬ t < 0 ∧ 100 < t) := by omega
      clear hr hin
      rcases hin' with h1 | ⟨h1, h2⟩
      all_goals
        go_enter Try.func6, Try.ntmps6
        go_wp2_with fail
        generalize (w.alloc (.cells P.cells 24)).alloc (.cells s.cells 41) = W at *
        refine (awake11_any _).mono ?_
        rintro e w1 ⟨rfl, hb1⟩
        have r1 := (row_below hb1 (row_lt r0)).trans r0
        have s1 := (row_below hb1 (row_lt s0)).trans s0
        have hB1 := Below.then hB0 hb1
        clear r0 s0 hB0 hb1
        go_wp2_with fail
        refine (plain_any P _).mono ?_
        rintro e w2 ⟨rfl, hb2⟩
        have hB2 := Below.then hB1 hb2
        clear hB1 hb2
        go_wp2_with fail
        refine (HR.out _).mono ?_
        rintro e w3 ⟨rfl, hb3⟩
        have hB3 := Below.then hB2 hb3
        clear hB2 hb3
        go_wp2_with fail
        go_ret
        exact ⟨rfl, hB3⟩
end Go.Proofs.Ytncobbhhjkdllaa
