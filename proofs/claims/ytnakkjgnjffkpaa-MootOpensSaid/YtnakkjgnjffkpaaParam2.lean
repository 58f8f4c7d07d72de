/-
  What param.scores and param.others answer.
-/
import Derived.Test.YtnakkjgnjffkpaaParam
namespace Go.Proofs.Ytnakkjgnjffkpaa
open Go.RowKit
set_option linter.unusedVariables false

def scoresL (P : Par) : List Bool := [inI P.bias 1 4294967296, inI P.biasEm P.bias 4294967296, inI P.quot 1 1099511627776, inI P.quotEm 1 P.quot, decide ((P.recover : Int) ≤ 4294967296), inI P.scoreCap 1 72057594037927936]
def scoresB (P : Par) : Bool := (scoresL P).all id
def othersL (P : Par) : List Bool := [decide ((P.rate : Int) ≤ 4294967296), decide ((P.bond : Int) ≤ 1099511627776), inI P.delay 0 1000, inI P.wait 0 50, inI P.enact 0 1000, inI P.poll 1 1000, inI P.streak 0 64, inI P.boost 0 1000, inI P.absent 0 10000, inI P.burn 0 10000, inI P.quorum 0 10000, inI P.churn 1 64]
def othersB (P : Par) : Bool := (othersL P).all id
set_option maxHeartbeats 4000000 in
set_option maxRecDepth 100000 in
theorem scores_any (P : Par) (w : World) : Calls Try.prog 129 #[.agg P.cells] w fun e w' => e = .returned (.bool (scoresB P)) ∧ Below w.heap.size w w' := by
  have r1 : row (w.alloc (.cells P.cells 76)) w.heap.size = some P.cells := (by (repeat (first | assumption | (refine row_at _ _ _ _ ?_; first | rfl | (simp only [World.size_alloc]; done) | (simp only [World.size_alloc]; omega)) | (refine (row_past _ _ _ ?_).trans ?_; (focus (first | exact Nat.lt_succ_self _ | ((repeat rw [World.size_alloc]); omega) | (simp; done) | (simp; omega) | omega))) | rw [row_drewN] | rw [row_drew])); (first | done | fail))
  go_enter Try.func129, Try.ntmps129
  go_wp2_with fail
  have hB0 : Below w.heap.size w (w.alloc (.cells P.cells 76)) := (by (repeat (first | exact Below.refl _ _ | assumption | (refine Below.allocT ?_ _) | refine Below.drew ?_ | refine below_drewN ?_ _ | (refine Below.then ?_ (by assumption)) | (refine Below.setRow ?_ ?_ _; rotate_left; (focus (first | exact Nat.lt_succ_self _ | ((repeat rw [World.size_alloc]); omega) | (simp; done) | (simp; omega) | omega))) | (refine Below.setCell ?_ ?_ _; rotate_left; (focus (first | exact Nat.lt_succ_self _ | ((repeat rw [World.size_alloc]); omega) | (simp; done) | (simp; omega) | omega))) | (refine Below.then' ?_ (by assumption) ?_; rotate_left; (focus (first | exact Nat.lt_succ_self _ | ((repeat rw [World.size_alloc]); omega) | (simp; done) | (simp; omega) | omega))) | fail)); (first | done | fail))
  generalize w.alloc (.cells P.cells 76) = W at *
  have c6 : W.cell? ⟨w.heap.size, 6, none⟩ = some (.int .u64 P.bias) := row_cell r1 6
  have c7 : W.cell? ⟨w.heap.size, 7, none⟩ = some (.int .u64 P.quot) := row_cell r1 7
  have c8 : W.cell? ⟨w.heap.size, 8, none⟩ = some (.int .u64 P.biasEm) := row_cell r1 8
  have c9 : W.cell? ⟨w.heap.size, 9, none⟩ = some (.int .u64 P.quotEm) := row_cell r1 9
  have c10 : W.cell? ⟨w.heap.size, 10, none⟩ = some (.int .u64 P.recover) := row_cell r1 10
  have c11 : W.cell? ⟨w.heap.size, 11, none⟩ = some (.int .u64 P.scoreCap) := row_cell r1 11
  first | (go_region_held3 (fun w' => w'.cell? ⟨w.heap.size, 6, none⟩ = some (.int .u64 P.bias) ∧ w'.cell? ⟨w.heap.size, 7, none⟩ = some (.int .u64 P.quot) ∧ w'.cell? ⟨w.heap.size, 8, none⟩ = some (.int .u64 P.biasEm) ∧ w'.cell? ⟨w.heap.size, 9, none⟩ = some (.int .u64 P.quotEm) ∧ w'.cell? ⟨w.heap.size, 10, none⟩ = some (.int .u64 P.recover) ∧ w'.cell? ⟨w.heap.size, 11, none⟩ = some (.int .u64 P.scoreCap)) (go_keep) (first | (go_at_call 156; refine (within_u _ _ _ _).mono ?_; rintro e w' ⟨rfl, rfl⟩) | (go_at_call 155; refine (all_any _ (scoresL P) 6 6 rfl (by omega) _ (flags_new _ (scoresL P) _ _ rfl).draw).mono ?_; rintro e w' ⟨rfl, rfl⟩))) | fail
  all_goals go_wp2_with fail
  all_goals go_ret
  all_goals exact ⟨rfl, (by (repeat (first | exact Below.refl _ _ | assumption | (refine Below.allocT ?_ _) | refine Below.drew ?_ | refine below_drewN ?_ _ | (refine Below.then ?_ (by assumption)) | (refine Below.setRow ?_ ?_ _; rotate_left; (focus (first | exact Nat.lt_succ_self _ | ((repeat rw [World.size_alloc]); omega) | (simp; done) | (simp; omega) | omega))) | (refine Below.setCell ?_ ?_ _; rotate_left; (focus (first | exact Nat.lt_succ_self _ | ((repeat rw [World.size_alloc]); omega) | (simp; done) | (simp; omega) | omega))) | (refine Below.then' ?_ (by assumption) ?_; rotate_left; (focus (first | exact Nat.lt_succ_self _ | ((repeat rw [World.size_alloc]); omega) | (simp; done) | (simp; omega) | omega))) | fail)); (first | done | fail))⟩
set_option maxHeartbeats 4000000 in
set_option maxRecDepth 100000 in
theorem others_any (P : Par) (w : World) : Calls Try.prog 130 #[.agg P.cells] w fun e w' => e = .returned (.bool (othersB P)) ∧ Below w.heap.size w w' := by
  have r1 : row (w.alloc (.cells P.cells 76)) w.heap.size = some P.cells := (by (repeat (first | assumption | (refine row_at _ _ _ _ ?_; first | rfl | (simp only [World.size_alloc]; done) | (simp only [World.size_alloc]; omega)) | (refine (row_past _ _ _ ?_).trans ?_; (focus (first | exact Nat.lt_succ_self _ | ((repeat rw [World.size_alloc]); omega) | (simp; done) | (simp; omega) | omega))) | rw [row_drewN] | rw [row_drew])); (first | done | fail))
  go_enter Try.func130, Try.ntmps130
  go_wp2_with fail
  have hB0 : Below w.heap.size w (w.alloc (.cells P.cells 76)) := (by (repeat (first | exact Below.refl _ _ | assumption | (refine Below.allocT ?_ _) | refine Below.drew ?_ | refine below_drewN ?_ _ | (refine Below.then ?_ (by assumption)) | (refine Below.setRow ?_ ?_ _; rotate_left; (focus (first | exact Nat.lt_succ_self _ | ((repeat rw [World.size_alloc]); omega) | (simp; done) | (simp; omega) | omega))) | (refine Below.setCell ?_ ?_ _; rotate_left; (focus (first | exact Nat.lt_succ_self _ | ((repeat rw [World.size_alloc]); omega) | (simp; done) | (simp; omega) | omega))) | (refine Below.then' ?_ (by assumption) ?_; rotate_left; (focus (first | exact Nat.lt_succ_self _ | ((repeat rw [World.size_alloc]); omega) | (simp; done) | (simp; omega) | omega))) | fail)); (first | done | fail))
  generalize w.alloc (.cells P.cells 76) = W at *
  have c12 : W.cell? ⟨w.heap.size, 12, none⟩ = some (.int .u64 P.rate) := row_cell r1 12
  have c13 : W.cell? ⟨w.heap.size, 13, none⟩ = some (.int .u64 P.bond) := row_cell r1 13
  have c14 : W.cell? ⟨w.heap.size, 14, none⟩ = some (.int .i64 P.delay) := row_cell r1 14
  have c15 : W.cell? ⟨w.heap.size, 15, none⟩ = some (.int .i64 P.streak) := row_cell r1 15
  have c16 : W.cell? ⟨w.heap.size, 16, none⟩ = some (.int .i64 P.boost) := row_cell r1 16
  have c17 : W.cell? ⟨w.heap.size, 17, none⟩ = some (.int .i64 P.absent) := row_cell r1 17
  have c18 : W.cell? ⟨w.heap.size, 18, none⟩ = some (.int .i64 P.burn) := row_cell r1 18
  have c19 : W.cell? ⟨w.heap.size, 19, none⟩ = some (.int .i64 P.churn) := row_cell r1 19
  have c20 : W.cell? ⟨w.heap.size, 20, none⟩ = some (.int .i64 P.wait) := row_cell r1 20
  have c21 : W.cell? ⟨w.heap.size, 21, none⟩ = some (.int .i64 P.poll) := row_cell r1 21
  have c22 : W.cell? ⟨w.heap.size, 22, none⟩ = some (.int .i64 P.enact) := row_cell r1 22
  have c23 : W.cell? ⟨w.heap.size, 23, none⟩ = some (.int .i64 P.quorum) := row_cell r1 23
  first | (go_region_held3 (fun w' => w'.cell? ⟨w.heap.size, 12, none⟩ = some (.int .u64 P.rate) ∧ w'.cell? ⟨w.heap.size, 13, none⟩ = some (.int .u64 P.bond) ∧ w'.cell? ⟨w.heap.size, 14, none⟩ = some (.int .i64 P.delay) ∧ w'.cell? ⟨w.heap.size, 15, none⟩ = some (.int .i64 P.streak) ∧ w'.cell? ⟨w.heap.size, 16, none⟩ = some (.int .i64 P.boost) ∧ w'.cell? ⟨w.heap.size, 17, none⟩ = some (.int .i64 P.absent) ∧ w'.cell? ⟨w.heap.size, 18, none⟩ = some (.int .i64 P.burn) ∧ w'.cell? ⟨w.heap.size, 19, none⟩ = some (.int .i64 P.churn) ∧ w'.cell? ⟨w.heap.size, 20, none⟩ = some (.int .i64 P.wait) ∧ w'.cell? ⟨w.heap.size, 21, none⟩ = some (.int .i64 P.poll) ∧ w'.cell? ⟨w.heap.size, 22, none⟩ = some (.int .i64 P.enact) ∧ w'.cell? ⟨w.heap.size, 23, none⟩ = some (.int .i64 P.quorum)) (go_keep) (first | (go_at_call 157; refine (within_i _ _ _ _).mono ?_; rintro e w' ⟨rfl, rfl⟩) | (go_at_call 155; refine (all_any _ (othersL P) 12 12 rfl (by omega) _ (flags_new _ (othersL P) _ _ rfl).draw).mono ?_; rintro e w' ⟨rfl, rfl⟩))) | fail
  all_goals go_wp2_with fail
  all_goals go_ret
  all_goals exact ⟨rfl, (by (repeat (first | exact Below.refl _ _ | assumption | (refine Below.allocT ?_ _) | refine Below.drew ?_ | refine below_drewN ?_ _ | (refine Below.then ?_ (by assumption)) | (refine Below.setRow ?_ ?_ _; rotate_left; (focus (first | exact Nat.lt_succ_self _ | ((repeat rw [World.size_alloc]); omega) | (simp; done) | (simp; omega) | omega))) | (refine Below.setCell ?_ ?_ _; rotate_left; (focus (first | exact Nat.lt_succ_self _ | ((repeat rw [World.size_alloc]); omega) | (simp; done) | (simp; omega) | omega))) | (refine Below.then' ?_ (by assumption) ?_; rotate_left; (focus (first | exact Nat.lt_succ_self _ | ((repeat rw [World.size_alloc]); omega) | (simp; done) | (simp; omega) | omega))) | fail)); (first | done | fail))⟩
end Go.Proofs.Ytnakkjgnjffkpaa
