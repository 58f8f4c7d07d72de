/-
  The walks of the statements of layer 12: they answer true whatever the arguments.
-/
import Derived.Test.YtfdjmpaikbaepaaMode
import Derived.Test.YtfdjmpaikbaepaaOpenPar
namespace Go.Proofs.Ytfdjmpaikbaepaa
open Go.RowKit
open Go.ChangeShapes Go.WideShapes Go.ChangeAt

theorem stakes_under : Try.prog.underlying 26 = some (.struct (Try.prog.fieldsOf 26)) := by kernel_rfl
set_option maxRecDepth 100000 in
theorem open_stakes {H : Type} {enc : TypeId × Value → H} {W : World} {base : Nat} {spare : Nat → Bool} {held : Bool} {r : Reach} {b0 : Nat} {v : Value} {d : DataW H} {p : List MemPlace}
    (hv : Value.okWide Try.prog W r b0 26 v) (h : DataW.Trod enc Try.prog W base spare held 26 v d p) : ∃ (x y : Nat) (z : Bool), v = .agg #[.int .u64 x, .int .u64 y, .bool z] ∧ x < 18446744073709551616 ∧ y < 18446744073709551616 := by
  obtain ⟨⟨l⟩, rfl, _⟩ := okWide_struct stakes_under hv
  obtain ⟨fuel, hf⟩ := h
  obtain ⟨hlen, hF⟩ := flat_cells stakes_under hf
  have hlen' : l.length = 3 := hlen.trans (by kernel_rfl)
  obtain ⟨a0, e0, o0⟩ := at_u64 under_u64 cells_u64 (hF 0 22 0 (by kernel_rfl))
  obtain ⟨a1, e1, o1⟩ := at_u64 under_u64 cells_u64 (hF 1 22 1 (by kernel_rfl))
  obtain ⟨a2, e2⟩ := at_bool under_bool cells_bool (hF 2 4 2 (by kernel_rfl))
  have hl : l = [.int .u64 a0, .int .u64 a1, .bool a2] := list_ext 3 hlen' rfl (fun i hi => by
    match i with
    | 0 => exact e0
    | 1 => exact e1
    | 2 => exact e2
    | n + 3 => omega)
  subst hl
  exact ⟨a0, a1, a2, rfl, o0, o1⟩

set_option maxHeartbeats 400000 in
theorem awake12_any (w : World) : Calls Try.prog 15 #[] w fun e w' => e = .returned (.bool true) ∧ Below w.heap.size w w' := by
  go_enter Try.func15, Try.ntmps15
  go_wp2_with fail
  refine (simple_any _).mono ?_
  rintro e w1 ⟨rfl, hb1⟩
  go_wp2_with fail
  refine (step_any _ 2 2 3 (by omega) (by omega) (by omega) (by omega) _).mono ?_
  rintro e w2 ⟨rfl, hb2⟩
  have hr2 := (row_below hb2 (g := w1.heap.size) (by simp)).trans (row_at w1 _ _ _ rfl)
  have t1 : stepN 2 2 3 = 3 := by decide
  have t2 : twoB 2 3 = false := by decide
  have hz2 := row_lt hr2
  go_wp2_with fail
  refine (of_any _ 0 _ _).mono ?_
  rintro e w3 ⟨rfl, hb3⟩
  have hr3 := (row_below hb3 (g := w1.heap.size) (by omega)).trans hr2
  have t3 : modeOf simpleP.delay 0 false = 1 := by decide
  go_wp2_with fail
  refine (of_any _ 2 _ _).mono ?_
  rintro e w4 ⟨rfl, hb4⟩
  have hr4 := (row_below hb4 (g := w1.heap.size) (row_lt hr3)).trans hr3
  have t4 : modeOf simpleP.delay 2 false = 2 := by decide
  go_wp2_with fail
  refine (of_any _ 3 _ _).mono ?_
  rintro e w5 ⟨rfl, hb5⟩
  have t5 : modeOf simpleP.delay 3 false = 3 := by decide
  go_wp2_with fail
  go_ret
  exact ⟨rfl, (by repeat (first | exact Below.refl _ _ | assumption | (refine Below.allocT ?_ _) | refine Below.drew ?_ | refine below_drewN ?_ _ | (refine Below.then ?_ (by assumption)) | (refine Below.setRow ?_ ?_ _; rotate_left; (focus (first | exact Nat.lt_succ_self _ | (simp only [World.size_alloc]; omega) | (simp; done) | (simp; omega) | omega))) | (refine Below.setCell ?_ ?_ _; rotate_left; (focus (first | exact Nat.lt_succ_self _ | (simp only [World.size_alloc]; omega) | (simp; done) | (simp; omega) | omega))) | (refine Below.then' ?_ (by assumption) ?_; rotate_left; (focus (first | exact Nat.lt_succ_self _ | (simp only [World.size_alloc]; omega) | (simp; done) | (simp; omega) | omega))) | fail))⟩
def leaksQuiet (delay calm : Int) (k : Nat) : Int := min (k : Int) (max 0 (delay - calm))
set_option maxHeartbeats 1000000 in
theorem modeLeaks_any (P : Par) (calm : Int) (pr ac : Nat) (em : Bool) (hd : i64ok P.delay) (hc : i64ok calm) (hp : pr < 18446744073709551616) (ha : ac < 18446744073709551616) (w : World) :
    Calls Try.prog 3 #[.agg P.cells, .int .i64 calm, .agg #[.int .u64 pr, .int .u64 ac, .bool em]] w fun e w' => e = .returned (.bool true) ∧ Below w.heap.size w w' := by
  obtain ⟨hd1, hd2⟩ := hd
  obtain ⟨hc1, hc2⟩ := hc
  go_enter Try.func3, Try.ntmps3
  go_wp2_with fail
  refine (awake12_any _).mono ?_
  rintro e w1 ⟨rfl, hb1⟩
  have hr1 : row w1 w.heap.size = some P.cells := (row_below hb1 (g := w.heap.size) (by simp; omega)).trans (by simp [row_at, row_past])
  have hs1 : row w1 (w.heap.size + 1) = some #[.int .u64 pr, .int .u64 ac, .bool em] := (row_below hb1 (g := w.heap.size + 1) (by simp)).trans (by simp [row_at, row_past])
  have hz1 := row_lt hs1
  have hcell : ∀ i, w1.cell? ⟨w.heap.size, i, none⟩ = P.cells[i]? := fun i => row_cell hr1 i
  have hcell' : ∀ i, w1.cell? ⟨w.heap.size + 1, i, none⟩ = #[.int .u64 pr, .int .u64 ac, .bool em][i]? := fun i => row_cell hs1 i
  go_wp2_with fail
  all_goals first | (go_ret; exact ⟨rfl, (by repeat (first | exact Below.refl _ _ | assumption | (refine Below.allocT ?_ _) | refine Below.drew ?_ | refine below_drewN ?_ _ | (refine Below.then ?_ (by assumption)) | (refine Below.setRow ?_ ?_ _; rotate_left; (focus (first | exact Nat.lt_succ_self _ | (simp only [World.size_alloc]; omega) | (simp; done) | (simp; omega) | omega))) | (refine Below.setCell ?_ ?_ _; rotate_left; (focus (first | exact Nat.lt_succ_self _ | (simp only [World.size_alloc]; omega) | (simp; done) | (simp; omega) | omega))) | (refine Below.then' ?_ (by assumption) ?_; rotate_left; (focus (first | exact Nat.lt_succ_self _ | (simp only [World.size_alloc]; omega) | (simp; done) | (simp; omega) | omega))) | fail))⟩) | skip
  have g1 : 0 ≤ P.delay := by omega
  have g2 : P.delay ≤ 200 := by omega
  have g3 : 0 ≤ calm := by omega
  have g4 : calm ≤ 1048576 := by omega
  have g5 : 3 * pr ≤ 2 * ac := by omega
  have hB : Below w.heap.size w w1 := (by repeat (first | exact Below.refl _ _ | assumption | (refine Below.allocT ?_ _) | refine Below.drew ?_ | refine below_drewN ?_ _ | (refine Below.then ?_ (by assumption)) | (refine Below.setRow ?_ ?_ _; rotate_left; (focus (first | exact Nat.lt_succ_self _ | (simp only [World.size_alloc]; omega) | (simp; done) | (simp; omega) | omega))) | (refine Below.setCell ?_ ?_ _; rotate_left; (focus (first | exact Nat.lt_succ_self _ | (simp only [World.size_alloc]; omega) | (simp; done) | (simp; omega) | omega))) | (refine Below.then' ?_ (by assumption) ?_; rotate_left; (focus (first | exact Nat.lt_succ_self _ | (simp only [World.size_alloc]; omega) | (simp; done) | (simp; omega) | omega))) | fail))
  clear hcell hcell'
  go_loopw [1, 7, 8, 9, 10, 47] (fun c q _ _ _ k wr => ∃ j : Nat, (j : Int) ≤ P.delay + 5 ∧ k = .int .i64 j ∧ c = .int .i64 (calm + j) ∧ q = .int .i64 (leaksQuiet P.delay calm j) ∧ Below w.heap.size w wr ∧ row wr w.heap.size = some P.cells ∧ row wr (w.heap.size + 1) = some #[.int .u64 pr, .int .u64 ac, .bool em]) (fun _ _ _ _ _ k _ => (P.delay + 5).toNat - (intOf k).toNat)
  case atStart => exact ⟨0, by omega, rfl, by simp, by simp [leaksQuiet]; omega, hB, hr1, hs1⟩
  case round =>
    obtain ⟨j, hj, rfl, rfl, rfl, hBr, hrr, hsr⟩ := hrel
    have hcell : ∀ i, wr.cell? ⟨w.heap.size, i, none⟩ = P.cells[i]? := fun i => row_cell hrr i
    have hcell' : ∀ i, wr.cell? ⟨w.heap.size + 1, i, none⟩ = #[.int .u64 pr, .int .u64 ac, .bool em][i]? := fun i => row_cell hsr i
    have hzr := row_lt hsr
    clear hr1 hs1 hz1 hb1 hB
    by_cases hlt : (j : Int) < P.delay + 5
    · have t1 : stepN (calm + j) pr ac = calm + j + 1 := by
        have : twoB pr ac = false := by simp [twoB, lessB]; omega
        simp [stepN, this]; omega
      have t2 : twoB pr ac = false := by simp [twoB, lessB]; omega
      by_cases hl : P.delay < calm + j + 1
      · have t3 : modeOf P.delay (calm + j + 1) false = 3 := by simp [modeOf, hl]
        have t4 : leaksQuiet P.delay calm (j + 1) = leaksQuiet P.delay calm j := by simp [leaksQuiet]; omega
        have T4 := Lib.hid t4; clear t4
        go_wp2_with fail
        refine (step_any P (calm + j) pr ac (by omega) (by omega) hp ha _).mono ?_
        rintro e w2 ⟨rfl, hb2⟩
        have hr2 := (row_below hb2 (g := w.heap.size) (by omega)).trans hrr
        have hs2 := (row_below hb2 (g := w.heap.size + 1) (by omega)).trans hsr
        have hz2 := row_lt hs2
        clear hcell hcell'
        have hcell : ∀ i, w2.cell? ⟨w.heap.size, i, none⟩ = P.cells[i]? := fun i => row_cell hr2 i
        go_wp2_with fail
        refine (of_any P (calm + j + 1) false _).mono ?_
        rintro e w3 ⟨rfl, hb3⟩
        have hr3 := (row_below hb3 (g := w.heap.size) (by omega)).trans hr2
        have hs3 := (row_below hb3 (g := w.heap.size + 1) (by omega)).trans hs2
        clear hcell
        have hcell : ∀ i, w3.cell? ⟨w.heap.size, i, none⟩ = P.cells[i]? := fun i => row_cell hr3 i
        go_wp2_with fail
        go_roundw
        case rel => exact ⟨j + 1, by omega, by go_num, by go_num, by rw [T4.out], (by repeat (first | exact Below.refl _ _ | assumption | (refine Below.allocT ?_ _) | refine Below.drew ?_ | refine below_drewN ?_ _ | (refine Below.then ?_ (by assumption)) | (refine Below.setRow ?_ ?_ _; rotate_left; (focus (first | exact Nat.lt_succ_self _ | (simp only [World.size_alloc]; omega) | (simp; done) | (simp; omega) | omega))) | (refine Below.setCell ?_ ?_ _; rotate_left; (focus (first | exact Nat.lt_succ_self _ | (simp only [World.size_alloc]; omega) | (simp; done) | (simp; omega) | omega))) | (refine Below.then' ?_ (by assumption) ?_; rotate_left; (focus (first | exact Nat.lt_succ_self _ | (simp only [World.size_alloc]; omega) | (simp; done) | (simp; omega) | omega))) | fail)), hr3, hs3⟩
        case measure => simp [intOf]; omega
      · have t3 : modeOf P.delay (calm + j + 1) false = 2 := by simp [modeOf, hl]; omega
        have t4 : leaksQuiet P.delay calm (j + 1) = leaksQuiet P.delay calm j + 1 := by simp [leaksQuiet]; omega
        have t5 : leaksQuiet P.delay calm j ≤ 200 := by simp [leaksQuiet]; omega
        have t6 : 0 ≤ leaksQuiet P.delay calm j := by simp [leaksQuiet]; omega
        have T4 := Lib.hid t4; clear t4
        go_wp2_with fail
        refine (step_any P (calm + j) pr ac (by omega) (by omega) hp ha _).mono ?_
        rintro e w2 ⟨rfl, hb2⟩
        have hr2 := (row_below hb2 (g := w.heap.size) (by omega)).trans hrr
        have hs2 := (row_below hb2 (g := w.heap.size + 1) (by omega)).trans hsr
        have hz2 := row_lt hs2
        clear hcell hcell'
        have hcell : ∀ i, w2.cell? ⟨w.heap.size, i, none⟩ = P.cells[i]? := fun i => row_cell hr2 i
        go_wp2_with fail
        refine (of_any P (calm + j + 1) false _).mono ?_
        rintro e w3 ⟨rfl, hb3⟩
        have hr3 := (row_below hb3 (g := w.heap.size) (by omega)).trans hr2
        have hs3 := (row_below hb3 (g := w.heap.size + 1) (by omega)).trans hs2
        clear hcell
        have hcell : ∀ i, w3.cell? ⟨w.heap.size, i, none⟩ = P.cells[i]? := fun i => row_cell hr3 i
        go_wp2_with fail
        go_roundw
        case rel => exact ⟨j + 1, by omega, by go_num, by go_num, by rw [T4.out], (by repeat (first | exact Below.refl _ _ | assumption | (refine Below.allocT ?_ _) | refine Below.drew ?_ | refine below_drewN ?_ _ | (refine Below.then ?_ (by assumption)) | (refine Below.setRow ?_ ?_ _; rotate_left; (focus (first | exact Nat.lt_succ_self _ | (simp only [World.size_alloc]; omega) | (simp; done) | (simp; omega) | omega))) | (refine Below.setCell ?_ ?_ _; rotate_left; (focus (first | exact Nat.lt_succ_self _ | (simp only [World.size_alloc]; omega) | (simp; done) | (simp; omega) | omega))) | (refine Below.then' ?_ (by assumption) ?_; rotate_left; (focus (first | exact Nat.lt_succ_self _ | (simp only [World.size_alloc]; omega) | (simp; done) | (simp; omega) | omega))) | fail)), hr3, hs3⟩
        case measure => simp [intOf]; omega
    · have t1 : stepN (calm + j) 1 1 = 0 := rfl
      have t2 : twoB 1 1 = true := by decide
      have t3 : modeOf P.delay (calm + j) false = 3 := by simp [modeOf]; omega
      have t4 : modeOf P.delay 0 false = 1 := by simp [modeOf]; omega
      have t5 : modeOf P.delay 0 true = 4 := rfl
      have t6 : leaksQuiet P.delay calm j ≤ P.delay := by simp [leaksQuiet]; omega
      go_wp2_with fail
      refine (step_any P (calm + j) 1 1 (by omega) (by omega) (by omega) (by omega) _).mono ?_
      rintro e w2 ⟨rfl, hb2⟩
      have hr2 := (row_below hb2 (g := w.heap.size) (by omega)).trans hrr
      clear hcell hcell'
      have hcell : ∀ i, w2.cell? ⟨w.heap.size, i, none⟩ = P.cells[i]? := fun i => row_cell hr2 i
      go_wp2_with fail
      refine (of_any P (calm + j) false _).mono ?_
      rintro e w3 ⟨rfl, hb3⟩
      have hr3 := (row_below hb3 (g := w.heap.size) (row_lt hr2)).trans hr2
      go_wp2_with fail
      refine (of_any P 0 false _).mono ?_
      rintro e w4 ⟨rfl, hb4⟩
      have hr4 := (row_below hb4 (g := w.heap.size) (row_lt hr3)).trans hr3
      go_wp2_with fail
      refine (of_any P 0 true _).mono ?_
      rintro e w5 ⟨rfl, hb5⟩
      go_wp2_with fail
      go_ret
      exact ⟨rfl, (by repeat (first | exact Below.refl _ _ | assumption | (refine Below.allocT ?_ _) | refine Below.drew ?_ | refine below_drewN ?_ _ | (refine Below.then ?_ (by assumption)) | (refine Below.setRow ?_ ?_ _; rotate_left; (focus (first | exact Nat.lt_succ_self _ | (simp only [World.size_alloc]; omega) | (simp; done) | (simp; omega) | omega))) | (refine Below.setCell ?_ ?_ _; rotate_left; (focus (first | exact Nat.lt_succ_self _ | (simp only [World.size_alloc]; omega) | (simp; done) | (simp; omega) | omega))) | (refine Below.then' ?_ (by assumption) ?_; rotate_left; (focus (first | exact Nat.lt_succ_self _ | (simp only [World.size_alloc]; omega) | (simp; done) | (simp; omega) | omega))) | fail))⟩
end Go.Proofs.Ytfdjmpaikbaepaa
