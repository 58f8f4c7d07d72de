/-
  What score.After, Trim and Leaks answer, and bullionref11's.
-/
import Derived.Test.YtkfbnaafpikgfaaScore
import Derived.Test.YtkfbnaafpikgfaaLeaks
namespace Go.Proofs.Ytkfbnaafpikgfaa
open Go.RowKit
set_option linter.unusedVariables false

theorem cardC_room (s : St) (P : Par) : roomy 0 4 (cardC s P) = true := rfl
theorem cardC_ext (s : St) (P : Par) : (cardC s P).extract 0 4 = s.cells := rfl
theorem cardC_app (s : St) (P : Par) : s.cells ++ P.cells = cardC s P := by kernel_rfl
attribute [go_sem] cardC_room cardC_ext cardC_app
def afterS (P : Par) (s : St) (present : Bool) (mode : Int) : St := if present then thereS P s else awayS P s mode
def afterV (P : Par) (s : St) (present : Bool) (mode : Int) : St := if rightB P then afterS P s present mode else s
def trimV (P : Par) (s : St) : St := if rightB P then trimS P s else s
theorem right_scores {P : Par} (h : rightB P = true) : P.bias < 18446744073709551616 ∧ P.biasEm < 18446744073709551616 ∧ P.scoreCap < 18446744073709551616 ∧ P.recover < 18446744073709551616 ∧ 0 ≤ P.streak ∧ P.streak ≤ 64 := by
  have h1 := scores_facts (right_facts h).2.1
  have h2 := others_facts (right_facts h).2.2.1
  omega
theorem card_built (s : St) (P : Par) : Try.prog.built 141 [(0, .agg s.cells), (1, .agg P.cells)] = some (s.cells ++ P.cells) := by kernel_rfl
theorem card_build {x y : Operand} {dst : Option Tmp} {ty : TypeId} {pos : String} {after : Array Edge} {gd : Option (Nat × Bool)} {a : Act} {w : World} {K : Act → World → Prop} {Q : Exit → Act → World → Prop}
    (h : Try.prog.built 141 [(0, a.eval x), (1, a.eval y)] = some (aggOf (a.eval x) ++ aggOf (a.eval y))) :
    Oper.wp Try.prog ⟨dst, .build 141 #[(0, x), (1, y)], ty, pos, after, gd⟩ a w K Q = K (a.put dst (.agg (aggOf (a.eval x) ++ aggOf (a.eval y)))) w := wp_build_two _ h
attribute [go_sem ↓] card_build
attribute [go_sem] card_built
set_option maxHeartbeats 2000000 in
theorem strim_no (P : Par) (s : St) (hr : rightB P = false) (w : World) : Calls Try.prog 68 #[.agg P.cells, .agg s.cells] w fun e w' => e = .returned (.agg (s).cells) ∧ Below w.heap.size w w' := by
  have r0 : row (((w.alloc (.cells P.cells 24)).alloc (.cells s.cells 48)).alloc (.cells #[.int .u64 0, .int .u64 0, .int .u64 0, .int .i64 0] 48)) w.heap.size = some P.cells := (by (repeat (first | assumption | (refine row_at _ _ _ _ ?_; first | rfl | (simp only [World.size_alloc]; done) | (simp only [World.size_alloc]; omega)) | (refine (row_past _ _ _ ?_).trans ?_; (focus (first | exact Nat.lt_succ_self _ | ((repeat rw [World.size_alloc]); omega) | (simp; done) | (simp; omega) | omega))) | rw [row_drewN] | rw [row_drew])); (first | done | fail))
  have s0 : row (((w.alloc (.cells P.cells 24)).alloc (.cells s.cells 48)).alloc (.cells #[.int .u64 0, .int .u64 0, .int .u64 0, .int .i64 0] 48)) (w.heap.size + 1) = some s.cells := (by (repeat (first | assumption | (refine row_at _ _ _ _ ?_; first | rfl | (simp only [World.size_alloc]; done) | (simp only [World.size_alloc]; omega)) | (refine (row_past _ _ _ ?_).trans ?_; (focus (first | exact Nat.lt_succ_self _ | ((repeat rw [World.size_alloc]); omega) | (simp; done) | (simp; omega) | omega))) | rw [row_drewN] | rw [row_drew])); (first | done | fail))
  have z0 : row (((w.alloc (.cells P.cells 24)).alloc (.cells s.cells 48)).alloc (.cells #[.int .u64 0, .int .u64 0, .int .u64 0, .int .i64 0] 48)) (w.heap.size + 2) = some #[.int .u64 0, .int .u64 0, .int .u64 0, .int .i64 0] := (by (repeat (first | assumption | (refine row_at _ _ _ _ ?_; first | rfl | (simp only [World.size_alloc]; done) | (simp only [World.size_alloc]; omega)) | (refine (row_past _ _ _ ?_).trans ?_; (focus (first | exact Nat.lt_succ_self _ | ((repeat rw [World.size_alloc]); omega) | (simp; done) | (simp; omega) | omega))) | rw [row_drewN] | rw [row_drew])); (first | done | fail))
  have hB0 : Below w.heap.size w (((w.alloc (.cells P.cells 24)).alloc (.cells s.cells 48)).alloc (.cells #[.int .u64 0, .int .u64 0, .int .u64 0, .int .i64 0] 48)) := (by (repeat (first | exact Below.refl _ _ | assumption | (refine Below.allocT ?_ _) | refine Below.drew ?_ | refine below_drewN ?_ _ | (refine Below.then ?_ (by assumption)) | (refine Below.setRow ?_ ?_ _; rotate_left; (focus (first | exact Nat.lt_succ_self _ | ((repeat rw [World.size_alloc]); omega) | (simp; done) | (simp; omega) | omega))) | (refine Below.setCell ?_ ?_ _; rotate_left; (focus (first | exact Nat.lt_succ_self _ | ((repeat rw [World.size_alloc]); omega) | (simp; done) | (simp; omega) | omega))) | (refine Below.then' ?_ (by assumption) ?_; rotate_left; (focus (first | exact Nat.lt_succ_self _ | ((repeat rw [World.size_alloc]); omega) | (simp; done) | (simp; omega) | omega))) | fail)); (first | done | fail))
  have HC := Lib.hid (fun W => check_any P W)
  rw [show checkE P = 70 by simp [checkE, hr]] at HC
  clear hr
  go_enter Try.func68, Try.ntmps68
  go_wp2_with fail
  generalize ((w.alloc (.cells P.cells 24)).alloc (.cells s.cells 48)).alloc (.cells #[.int .u64 0, .int .u64 0, .int .u64 0, .int .i64 0] 48) = W0 at *
  refine (HC.out _).mono ?_
  rintro e w1 ⟨rfl, hb1⟩
  have r1 := (row_below hb1 (row_lt r0)).trans r0
  have s1 := (row_below hb1 (row_lt s0)).trans s0
  have z1 := (row_below hb1 (row_lt z0)).trans z0
  have hB1 := Below.then hB0 hb1
  clear r0 s0 z0 hB0 hb1
  go_wp2_with fail
  obtain ⟨t, ht⟩ := row_heap (row_setRow (new := s.cells) z1)
  exact bodyPost_ret (v := .agg s.cells) (results_cell_row Try.results68 _ _ (w.heap.size + 2) t s.cells (0, 0) _ rfl ht st_under rfl st_info) rfl ⟨rfl, Below.setRow hB1 (by omega) _⟩
set_option maxHeartbeats 2000000 in
theorem strim_yes (P : Par) (s : St) (hr : rightB P = true) (p5 : 0 ≤ P.streak) (w : World) : Calls Try.prog 68 #[.agg P.cells, .agg s.cells] w fun e w' => e = .returned (.agg (trimS P s).cells) ∧ Below w.heap.size w w' := by
  have r0 : row (((w.alloc (.cells P.cells 24)).alloc (.cells s.cells 48)).alloc (.cells #[.int .u64 0, .int .u64 0, .int .u64 0, .int .i64 0] 48)) w.heap.size = some P.cells := (by (repeat (first | assumption | (refine row_at _ _ _ _ ?_; first | rfl | (simp only [World.size_alloc]; done) | (simp only [World.size_alloc]; omega)) | (refine (row_past _ _ _ ?_).trans ?_; (focus (first | exact Nat.lt_succ_self _ | ((repeat rw [World.size_alloc]); omega) | (simp; done) | (simp; omega) | omega))) | rw [row_drewN] | rw [row_drew])); (first | done | fail))
  have s0 : row (((w.alloc (.cells P.cells 24)).alloc (.cells s.cells 48)).alloc (.cells #[.int .u64 0, .int .u64 0, .int .u64 0, .int .i64 0] 48)) (w.heap.size + 1) = some s.cells := (by (repeat (first | assumption | (refine row_at _ _ _ _ ?_; first | rfl | (simp only [World.size_alloc]; done) | (simp only [World.size_alloc]; omega)) | (refine (row_past _ _ _ ?_).trans ?_; (focus (first | exact Nat.lt_succ_self _ | ((repeat rw [World.size_alloc]); omega) | (simp; done) | (simp; omega) | omega))) | rw [row_drewN] | rw [row_drew])); (first | done | fail))
  have z0 : row (((w.alloc (.cells P.cells 24)).alloc (.cells s.cells 48)).alloc (.cells #[.int .u64 0, .int .u64 0, .int .u64 0, .int .i64 0] 48)) (w.heap.size + 2) = some #[.int .u64 0, .int .u64 0, .int .u64 0, .int .i64 0] := (by (repeat (first | assumption | (refine row_at _ _ _ _ ?_; first | rfl | (simp only [World.size_alloc]; done) | (simp only [World.size_alloc]; omega)) | (refine (row_past _ _ _ ?_).trans ?_; (focus (first | exact Nat.lt_succ_self _ | ((repeat rw [World.size_alloc]); omega) | (simp; done) | (simp; omega) | omega))) | rw [row_drewN] | rw [row_drew])); (first | done | fail))
  have hB0 : Below w.heap.size w (((w.alloc (.cells P.cells 24)).alloc (.cells s.cells 48)).alloc (.cells #[.int .u64 0, .int .u64 0, .int .u64 0, .int .i64 0] 48)) := (by (repeat (first | exact Below.refl _ _ | assumption | (refine Below.allocT ?_ _) | refine Below.drew ?_ | refine below_drewN ?_ _ | (refine Below.then ?_ (by assumption)) | (refine Below.setRow ?_ ?_ _; rotate_left; (focus (first | exact Nat.lt_succ_self _ | ((repeat rw [World.size_alloc]); omega) | (simp; done) | (simp; omega) | omega))) | (refine Below.setCell ?_ ?_ _; rotate_left; (focus (first | exact Nat.lt_succ_self _ | ((repeat rw [World.size_alloc]); omega) | (simp; done) | (simp; omega) | omega))) | (refine Below.then' ?_ (by assumption) ?_; rotate_left; (focus (first | exact Nat.lt_succ_self _ | ((repeat rw [World.size_alloc]); omega) | (simp; done) | (simp; omega) | omega))) | fail)); (first | done | fail))
  have HC := Lib.hid (fun W => check_any P W)
  rw [show checkE P = 0 by simp [checkE, hr]] at HC
  clear hr
  have HX := Lib.hid (fun (g : Nat) W h => ctrim_any P s g W p5 h)
  clear p5
  go_enter Try.func68, Try.ntmps68
  go_wp2_with fail
  generalize ((w.alloc (.cells P.cells 24)).alloc (.cells s.cells 48)).alloc (.cells #[.int .u64 0, .int .u64 0, .int .u64 0, .int .i64 0] 48) = W0 at *
  refine (HC.out _).mono ?_
  rintro e w1 ⟨rfl, hb1⟩
  have r1 := (row_below hb1 (row_lt r0)).trans r0
  have s1 := (row_below hb1 (row_lt s0)).trans s0
  have z1 := (row_below hb1 (row_lt z0)).trans z0
  have hB1 := Below.then hB0 hb1
  clear r0 s0 z0 hB0 hb1
  go_wp2_with fail
  have lz := row_lt z1
  have k1 : row (w1.alloc (.cells (cardC s P) 141)) w1.heap.size = some (cardC s P) := row_at _ _ _ _ rfl
  have zz1 : row (w1.alloc (.cells (cardC s P) 141)) (w.heap.size + 2) = some #[.int .u64 0, .int .u64 0, .int .u64 0, .int .i64 0] := (row_past _ _ _ lz).trans z1
  have hB2 : Below w.heap.size w (w1.alloc (.cells (cardC s P) 141)) := (by (repeat (first | exact Below.refl _ _ | assumption | (refine Below.allocT ?_ _) | refine Below.drew ?_ | refine below_drewN ?_ _ | (refine Below.then ?_ (by assumption)) | (refine Below.setRow ?_ ?_ _; rotate_left; (focus (first | exact Nat.lt_succ_self _ | ((repeat rw [World.size_alloc]); omega) | (simp; done) | (simp; omega) | omega))) | (refine Below.setCell ?_ ?_ _; rotate_left; (focus (first | exact Nat.lt_succ_self _ | ((repeat rw [World.size_alloc]); omega) | (simp; done) | (simp; omega) | omega))) | (refine Below.then' ?_ (by assumption) ?_; rotate_left; (focus (first | exact Nat.lt_succ_self _ | ((repeat rw [World.size_alloc]); omega) | (simp; done) | (simp; omega) | omega))) | fail)); (first | done | fail))
  generalize w1.alloc (.cells (cardC s P) 141) = V1 at *
  refine (HX.out _ _ k1).mono ?_
  rintro e w2 ⟨rfl, k2, hb2⟩
  have z2 := (row_below hb2 lz).trans zz1
  have hB3 : Below w.heap.size w w2 := hB2.trans (hb2.mono (by omega))
  clear z1 k1 zz1 hb2 hB2
  generalize hv : trimS P s = v at k2
  have HV := Lib.hid hv
  clear hv
  go_wp2_with fail
  obtain ⟨t, ht⟩ := row_heap (row_setRow (new := v.cells) z2)
  exact bodyPost_ret (v := .agg v.cells) (results_cell_row Try.results68 _ _ (w.heap.size + 2) t v.cells (0, 0) _ rfl ht st_under rfl st_info) rfl ⟨by rw [HV.out], Below.setRow hB3 (by omega) _⟩
theorem strim_any (P : Par) (s : St) (w : World) : Calls Try.prog 68 #[.agg P.cells, .agg s.cells] w fun e w' => e = .returned (.agg (trimV P s).cells) ∧ Below w.heap.size w w' := by
  unfold trimV
  cases hr : rightB P
  · exact strim_no P s hr w
  · obtain ⟨p1, p2, p3, p4, p5, p6⟩ := right_scores hr
    exact strim_yes P s hr p5 w
end Go.Proofs.Ytkfbnaafpikgfaa
