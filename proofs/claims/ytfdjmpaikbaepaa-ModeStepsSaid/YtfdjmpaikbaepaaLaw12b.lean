/-
  The walk of ModeSteps: it answers true whatever the arguments.
-/
import Derived.Test.YtfdjmpaikbaepaaLaw12
import Derived.Test.YtfdjmpaikbaepaaRef12
namespace Go.Proofs.Ytfdjmpaikbaepaa
open Go.RowKit

set_option maxHeartbeats 1000000 in
set_option maxRecDepth 100000 in
theorem modeSteps_any (P : Par) (calm : Int) (pr ac : Nat) (em : Bool) (hd : i64ok P.delay) (hc : i64ok calm) (hp : pr < 18446744073709551616) (ha : ac < 18446744073709551616) (w : World) :
    Calls Try.prog 4 #[.agg P.cells, .int .i64 calm, .agg #[.int .u64 pr, .int .u64 ac, .bool em]] w fun e w' => e = .returned (.bool true) ∧ Below w.heap.size w w' := by
  have hc0 := Lib.hid hc
  obtain ⟨hc1, hc2⟩ := hc
  go_enter Try.func4, Try.ntmps4
  go_wp2_with fail
  refine (awake12_any _).mono ?_
  rintro e w1 ⟨rfl, hb1⟩
  have hr1 : row w1 w.heap.size = some P.cells := (row_below hb1 (g := w.heap.size) (by simp; omega)).trans (by repeat (first | assumption | (refine row_at _ _ _ _ ?_; first | rfl | (simp only [World.size_alloc]; done) | (simp only [World.size_alloc]; omega)) | (refine (row_past _ _ _ ?_).trans ?_; (focus (first | exact Nat.lt_succ_self _ | (simp only [World.size_alloc]; omega) | (simp; done) | (simp; omega) | omega))) | rw [row_drewN] | rw [row_drew]))
  have hs1 : row w1 (w.heap.size + 1) = some #[.int .u64 pr, .int .u64 ac, .bool em] := (row_below hb1 (g := w.heap.size + 1) (by simp)).trans (by repeat (first | assumption | (refine row_at _ _ _ _ ?_; first | rfl | (simp only [World.size_alloc]; done) | (simp only [World.size_alloc]; omega)) | (refine (row_past _ _ _ ?_).trans ?_; (focus (first | exact Nat.lt_succ_self _ | (simp only [World.size_alloc]; omega) | (simp; done) | (simp; omega) | omega))) | rw [row_drewN] | rw [row_drew]))
  have hcell : ∀ i, w1.cell? ⟨w.heap.size, i, none⟩ = P.cells[i]? := fun i => row_cell hr1 i
  have hcell' : ∀ i, w1.cell? ⟨w.heap.size + 1, i, none⟩ = #[.int .u64 pr, .int .u64 ac, .bool em][i]? := fun i => row_cell hs1 i
  go_wp2_with fail
  refine (step_any P calm pr ac hc1 hc2 hp ha _).mono ?_
  rintro e w2 ⟨rfl, hb2⟩
  have hr2 := (row_below hb2 (g := w.heap.size) (row_lt hr1)).trans hr1
  have hs2 := (row_below hb2 (g := w.heap.size + 1) (row_lt hs1)).trans hs1
  clear hcell hcell'
  have hcell : ∀ i, w2.cell? ⟨w.heap.size, i, none⟩ = P.cells[i]? := fun i => row_cell hr2 i
  have hcell' : ∀ i, w2.cell? ⟨w.heap.size + 1, i, none⟩ = #[.int .u64 pr, .int .u64 ac, .bool em][i]? := fun i => row_cell hs2 i
  go_wp2_with fail
  refine (rstep_any calm pr ac hc1 hc2 hp ha _).mono ?_
  rintro e w3 ⟨rfl, hb3⟩
  have hr3 := (row_below hb3 (g := w.heap.size) (row_lt hr2)).trans hr2
  have hs3 := (row_below hb3 (g := w.heap.size + 1) (row_lt hs2)).trans hs2
  have hz3 := row_lt hs3
  clear hcell hcell'
  have hcell : ∀ i, w3.cell? ⟨w.heap.size, i, none⟩ = P.cells[i]? := fun i => row_cell hr3 i
  have hcell' : ∀ i, w3.cell? ⟨w.heap.size + 1, i, none⟩ = #[.int .u64 pr, .int .u64 ac, .bool em][i]? := fun i => row_cell hs3 i
  have hB : Below w.heap.size w w3 := (by repeat (first | exact Below.refl _ _ | assumption | (refine Below.allocT ?_ _) | refine Below.drew ?_ | refine below_drewN ?_ _ | (refine Below.then ?_ (by assumption)) | (refine Below.setRow ?_ ?_ _; rotate_left; (focus (first | exact Nat.lt_succ_self _ | (simp only [World.size_alloc]; omega) | (simp; done) | (simp; omega) | omega))) | (refine Below.setCell ?_ ?_ _; rotate_left; (focus (first | exact Nat.lt_succ_self _ | (simp only [World.size_alloc]; omega) | (simp; done) | (simp; omega) | omega))) | (refine Below.then' ?_ (by assumption) ?_; rotate_left; (focus (first | exact Nat.lt_succ_self _ | (simp only [World.size_alloc]; omega) | (simp; done) | (simp; omega) | omega))) | fail))
  have hws := word_same calm
  clear hb1 hb2 hb3 hr1 hs1 hr2 hs2
  go_wp2_with fail
  have HM : Hid (∀ w', Below w3.heap.size w3 w' → row w' w.heap.size = some P.cells ∧ (∀ i, w'.cell? ⟨w.heap.size, i, none⟩ = P.cells[i]?) ∧ (∀ i, w'.cell? ⟨w.heap.size + 1, i, none⟩ = #[.int .u64 pr, .int .u64 ac, .bool em][i]?)) := Lib.hid fun w' h =>
    ⟨(row_below h (row_lt hr3)).trans hr3, fun i => row_cell ((row_below h (row_lt hr3)).trans hr3) i, fun i => row_cell ((row_below h (row_lt hs3)).trans hs3) i⟩
  (refine wp_region_calm (by kernel_rfl) (by kernel_rfl) ?_; (repeat (first | (refine wpQuiet_step (fun K hK => ?_); apply calm_no; (focus (go_simp; done)); (go_simp; refine hK _ ?_; clear hK K)) | (refine wpQuiet_step (fun K hK => ?_); apply calm_go; (focus (go_simp; done)); (focus (intro w' hb'; obtain ⟨c1, c2, c3⟩ := HM.out w' hb'; first | exact par_quiet rfl c1 rfl | (unfold Oper.quietAt; go_simp; first | rfl | (go_at_call 17; exact calm_call hb' (of_any P calm em _)) | (go_at_call 19; exact calm_call hb' (rof_any P.delay calm em _)) | (go_at_call 20; exact calm_call hb' (word_any calm hc0.out _)) | (go_at_call 21; exact calm_call hb' (rword_any calm _))))); (go_simp; refine hK _ ?_; clear hK K)))); refine wpQuiet_nil ?_; intro w' hb')
  go_wp2_with fail
  go_ret
  exact ⟨rfl, (by repeat (first | exact Below.refl _ _ | assumption | (refine Below.allocT ?_ _) | refine Below.drew ?_ | refine below_drewN ?_ _ | (refine Below.then ?_ (by assumption)) | (refine Below.setRow ?_ ?_ _; rotate_left; (focus (first | exact Nat.lt_succ_self _ | (simp only [World.size_alloc]; omega) | (simp; done) | (simp; omega) | omega))) | (refine Below.setCell ?_ ?_ _; rotate_left; (focus (first | exact Nat.lt_succ_self _ | (simp only [World.size_alloc]; omega) | (simp; done) | (simp; omega) | omega))) | (refine Below.then' ?_ (by assumption) ?_; rotate_left; (focus (first | exact Nat.lt_succ_self _ | (simp only [World.size_alloc]; omega) | (simp; done) | (simp; omega) | omega))) | fail))⟩
end Go.Proofs.Ytfdjmpaikbaepaa
