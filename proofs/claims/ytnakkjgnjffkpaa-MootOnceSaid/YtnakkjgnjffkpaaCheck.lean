/-
  What param.Check and param.Leak answer.
-/
import Derived.Test.YtnakkjgnjffkpaaRight
namespace Go.Proofs.Ytnakkjgnjffkpaa
open Go.RowKit
set_option linter.unusedVariables false

theorem right_facts {P : Par} (h : rightB P = true) : stakesB P = true ∧ scoresB P = true ∧ othersB P = true ∧ leakT P ≤ 1048576 ∧ P.bias * leakT P ≤ P.scoreCap := by
  simpa [rightB] using h
def checkE (P : Par) : Int := if rightB P then 0 else 70
set_option maxHeartbeats 2000000 in
theorem check_any (P : Par) (w : World) : Calls Try.prog 81 #[.agg P.cells] w fun e w' => e = .returned (.int .i64 (checkE P)) ∧ Below w.heap.size w w' := by
  have r1 : row (w.alloc (.cells P.cells 76)) w.heap.size = some P.cells := (by (repeat (first | assumption | (refine row_at _ _ _ _ ?_; first | rfl | (simp only [World.size_alloc]; done) | (simp only [World.size_alloc]; omega)) | (refine (row_past _ _ _ ?_).trans ?_; (focus (first | exact Nat.lt_succ_self _ | ((repeat rw [World.size_alloc]); omega) | (simp; done) | (simp; omega) | omega))) | rw [row_drewN] | rw [row_drew])); (first | done | fail))
  have hB0 : Below w.heap.size w (w.alloc (.cells P.cells 76)) := (by (repeat (first | exact Below.refl _ _ | assumption | (refine Below.allocT ?_ _) | refine Below.drew ?_ | refine below_drewN ?_ _ | (refine Below.then ?_ (by assumption)) | (refine Below.setRow ?_ ?_ _; rotate_left; (focus (first | exact Nat.lt_succ_self _ | ((repeat rw [World.size_alloc]); omega) | (simp; done) | (simp; omega) | omega))) | (refine Below.setCell ?_ ?_ _; rotate_left; (focus (first | exact Nat.lt_succ_self _ | ((repeat rw [World.size_alloc]); omega) | (simp; done) | (simp; omega) | omega))) | (refine Below.then' ?_ (by assumption) ?_; rotate_left; (focus (first | exact Nat.lt_succ_self _ | ((repeat rw [World.size_alloc]); omega) | (simp; done) | (simp; omega) | omega))) | fail)); (first | done | fail))
  have H1 := Lib.hid (fun W => stakes_any P W)
  have H2 := Lib.hid (fun W => scores_any P W)
  have H3 := Lib.hid (fun W => others_any P W)
  cases hs : stakesB P
  · have HX : Hid (checkE P = 70) := Lib.hid (by simp [checkE, rightB, hs])
    rw [hs] at H1
    clear hs
    go_enter Try.func81, Try.ntmps81
    go_wp2_with fail
    generalize w.alloc (.cells P.cells 76) = W at *
    refine (H1.out _).mono ?_
    rintro e w1 ⟨rfl, hb1⟩
    go_wp2_with fail
    go_ret
    exact ⟨by rw [HX.out]; rfl, Below.then hB0 hb1⟩
  cases hsc : scoresB P
  · have HX : Hid (checkE P = 70) := Lib.hid (by simp [checkE, rightB, hsc])
    rw [hs] at H1
    rw [hsc] at H2
    clear hs hsc
    go_enter Try.func81, Try.ntmps81
    go_wp2_with fail
    generalize w.alloc (.cells P.cells 76) = W at *
    refine (H1.out _).mono ?_
    rintro e w1 ⟨rfl, hb1⟩
    have s1 := (row_below hb1 (row_lt r1)).trans r1
    have hB1 := Below.then hB0 hb1
    go_wp2_with fail
    refine (H2.out _).mono ?_
    rintro e w2 ⟨rfl, hb2⟩
    go_wp2_with fail
    go_ret
    exact ⟨by rw [HX.out]; rfl, Below.then hB1 hb2⟩
  cases ho : othersB P
  · have HX : Hid (checkE P = 70) := Lib.hid (by simp [checkE, rightB, ho])
    rw [hs] at H1
    rw [hsc] at H2
    rw [ho] at H3
    clear hs hsc ho
    go_enter Try.func81, Try.ntmps81
    go_wp2_with fail
    generalize w.alloc (.cells P.cells 76) = W at *
    refine (H1.out _).mono ?_
    rintro e w1 ⟨rfl, hb1⟩
    have s1 := (row_below hb1 (row_lt r1)).trans r1
    have hB1 := Below.then hB0 hb1
    go_wp2_with fail
    refine (H2.out _).mono ?_
    rintro e w2 ⟨rfl, hb2⟩
    have s2 := (row_below hb2 (row_lt s1)).trans s1
    have hB2 := Below.then hB1 hb2
    clear hB1 s1 r1 hB0 hb1 hb2
    go_wp2_with fail
    refine (H3.out _).mono ?_
    rintro e w3 ⟨rfl, hb3⟩
    go_wp2_with fail
    go_ret
    exact ⟨by rw [HX.out]; rfl, Below.then hB2 hb3⟩
  have hLk := leakOk_of hs hsc
  have hbs := (scores_facts hsc).2.1
  have hl := leakT_le P
  have H4 := Lib.hid (fun W => leak_any P hLk W)
  obtain ⟨B, hB⟩ : ∃ B, B = P.bias * leakT P := ⟨_, rfl⟩
  have hBl : B ≤ 4294967296 * 1048577 := by rw [hB]; exact Nat.mul_le_mul hbs hl.2
  have G1 : IntKind.u64.wrap ((P.bias : Int) * ((leakT P : Nat) : Int)) = (B : Int) := by rw [← Int.natCast_mul, ← hB]; exact Bits.wrapN _ (by omega)
  have HC : Hid (checkE P = if leakT P ≤ 1048576 ∧ B ≤ P.scoreCap then 0 else 70) := Lib.hid (by rw [hB]; simp [checkE, rightB, hs, hsc, ho])
  rw [hs] at H1
  rw [hsc] at H2
  rw [ho] at H3
  have HL := Lib.hid hl
  clear hs hsc ho hB hLk hbs
  by_cases h1 : (leakT P : Int) ≤ 1048576
  all_goals by_cases h2 : B ≤ P.scoreCap
  all_goals
    have HX := HC.out
    first
      | (rw [if_pos (by omega)] at HX)
      | (rw [if_neg (by omega)] at HX)
    have HY := Lib.hid HX
    clear HX
    go_enter Try.func81, Try.ntmps81
    go_wp2_with fail
    generalize w.alloc (.cells P.cells 76) = W at *
    refine (H1.out _).mono ?_
    rintro e w1 ⟨rfl, hb1⟩
    have s1 := (row_below hb1 (row_lt r1)).trans r1
    have hB1 := Below.then hB0 hb1
    go_wp2_with fail
    refine (H2.out _).mono ?_
    rintro e w2 ⟨rfl, hb2⟩
    have s2 := (row_below hb2 (row_lt s1)).trans s1
    have hB2 := Below.then hB1 hb2
    clear hB1 s1 r1 hB0 hb1 hb2
    go_wp2_with fail
    refine (H3.out _).mono ?_
    rintro e w3 ⟨rfl, hb3⟩
    have s3 := (row_below hb3 (row_lt s2)).trans s2
    have hB3 := Below.then hB2 hb3
    clear hB2 s2 hb3
    go_wp2_with fail
    refine (H4.out _).mono ?_
    rintro e w4 ⟨rfl, hb4⟩
    have s4 := (row_below hb4 (row_lt s3)).trans s3
    have hc0 : ∀ i, w4.cell? ⟨w.heap.size, i, none⟩ = P.cells[i]? := fun i => row_cell s4 i
    have hB4 := Below.then hB3 hb4
    clear hB3 s3 hb4
    have hl' := HL.out
    go_wp2_with fail
    go_ret
    exact ⟨by rw [HY.out]; rfl, hB4⟩
def leakV (P : Par) : Nat := if rightB P then leakT P else 0
end Go.Proofs.Ytnakkjgnjffkpaa
