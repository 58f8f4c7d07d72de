/-
  The walks of the statements of layer 13.
-/
import Derived.Test.YtkfbnaafpikgfaaBudget
import Derived.Test.YtkfbnaafpikgfaaFrame
namespace Go.Proofs.Ytkfbnaafpikgfaa
open Go.ChangeShapes Go.WideShapes Go.ChangeAt Go.RowKit
set_option linter.unusedVariables false

theorem issue_under : Try.prog.underlying 26 = some (.struct (Try.prog.fieldsOf 26)) := by kernel_rfl
set_option maxRecDepth 100000 in
theorem open_issue {H : Type} {enc : TypeId × Value → H} {W : World} {base : Nat} {spare : Nat → Bool} {held : Bool} {r : Reach} {b0 : Nat} {v : Value} {d : DataW H} {p : List MemPlace}
    (hv : Value.okWide Try.prog W r b0 26 v) (h : DataW.Trod enc Try.prog W base spare held 26 v d p) : ∃ s : St, v = .agg s.cells ∧ s.Ok := by
  obtain ⟨⟨l⟩, rfl, _⟩ := okWide_struct issue_under hv
  obtain ⟨fuel, hf⟩ := h
  obtain ⟨hlen, hF⟩ := flat_cells issue_under hf
  have hlen' : l.length = 4 := hlen.trans (by kernel_rfl)
  obtain ⟨a0, e0, o0⟩ := at_u64 under_u64 cells_u64 (hF 0 22 0 (by kernel_rfl))
  obtain ⟨a1, e1, o1⟩ := at_u64 under_u64 cells_u64 (hF 1 22 1 (by kernel_rfl))
  obtain ⟨a2, e2, o2⟩ := at_u64 under_u64 cells_u64 (hF 2 22 2 (by kernel_rfl))
  obtain ⟨a3, e3, o3⟩ := at_i64 under_i64 cells_i64 (hF 3 3 3 (by kernel_rfl))
  have hl : l = [.int .u64 a0, .int .u64 a1, .int .u64 a2, .int .i64 a3] := list_ext 4 hlen' rfl (fun i hi => by
    match i with
    | 0 => exact e0
    | 1 => exact e1
    | 2 => exact e2
    | 3 => exact e3
    | n + 4 => omega)
  subst hl
  exact ⟨⟨a0, a1, a2, a3⟩, rfl, ⟨o0, o1, o2, o3⟩⟩
theorem root_100 : rootN 100 = 10 := root_unique (by decide) (by decide)
theorem root_2 : rootN 2 = 1 := root_unique (by decide) (by decide)
theorem budV_100 : budV simpleP 100 = 10 := by unfold budV budN; rw [right_simple, root_100]; decide
theorem budV_0 : budV simpleP 0 = 0 := by unfold budV budN; rw [right_simple]; rfl
theorem budV_2 : budV simpleP 2 = 2 := by unfold budV budN; rw [right_simple, root_2]; decide
set_option maxHeartbeats 2000000 in
set_option maxRecDepth 100000 in
theorem awake13_any (w : World) : Calls Try.prog 12 #[] w fun e w' => e = .returned (.bool true) ∧ Below w.heap.size w w' := by
  have H1 := Lib.hid (fun W => bof_any simpleP 100 (by omega) W)
  have H2 := Lib.hid (fun W => bof_any simpleP 0 (by omega) W)
  have H3 := Lib.hid (fun W => bof_any simpleP 2 (by omega) W)
  have H4 := Lib.hid (fun W => bmint_any simpleP 100 5 15 1 (by omega) (by omega) (by omega) W)
  have H5 := Lib.hid (fun W => bmint_any simpleP 100 6 15 1 (by omega) (by omega) (by omega) W)
  rw [budV_100] at H1 H4 H5
  rw [budV_0] at H2
  rw [budV_2] at H3
  rw [show mintN 10 5 15 (leaksB 1) = 10 by decide] at H4
  rw [show mintN 10 6 15 (leaksB 1) = 0 by decide] at H5
  go_enter Try.func12, Try.ntmps12
  go_wp2_with fail
  have hB0 := Below.refl w.heap.size w
  refine (simple_any _).mono ?_
  rintro e w1 ⟨rfl, hb1⟩
  have hB1 := Below.then hB0 hb1
  clear  hB0 hb1
  have r2 := row_at w1 simpleP.cells 24 _ rfl
  have hB2 := Below.allocT hB1 (.cells simpleP.cells 24)
  go_wp2_with fail
  clear  hB1
  generalize w1.alloc (.cells simpleP.cells 24) = w2 at *
  refine (H1.out _).mono ?_
  rintro e w3 ⟨rfl, hb3⟩
  have r3 := (row_below hb3 (row_lt r2)).trans r2
  have hB3 := Below.then hB2 hb3
  clear r2 hB2 hb3
  go_wp2_with fail
  refine (H2.out _).mono ?_
  rintro e w4 ⟨rfl, hb4⟩
  have r4 := (row_below hb4 (row_lt r3)).trans r3
  have hB4 := Below.then hB3 hb4
  clear r3 hB3 hb4
  go_wp2_with fail
  refine (H3.out _).mono ?_
  rintro e w5 ⟨rfl, hb5⟩
  have r5 := (row_below hb5 (row_lt r4)).trans r4
  have hB5 := Below.then hB4 hb5
  clear r4 hB4 hb5
  go_wp2_with fail
  refine (H4.out _).mono ?_
  rintro e w6 ⟨rfl, hb6⟩
  have r6 := (row_below hb6 (row_lt r5)).trans r5
  have hB6 := Below.then hB5 hb6
  clear r5 hB5 hb6
  go_wp2_with fail
  refine (H5.out _).mono ?_
  rintro e w7 ⟨rfl, hb7⟩
  have hB7 := Below.then hB6 hb7
  clear r6 hB6 hb7
  go_wp2_with fail
  go_ret
  exact ⟨rfl, hB7⟩
set_option maxHeartbeats 4000000 in
set_option maxRecDepth 100000 in
theorem budgetMints_any (P : Par) (x : St) (hx : x.Ok) (w : World) : Calls Try.prog 3 #[.agg P.cells, .agg x.cells] w fun e w' => e = .returned (.bool true) ∧ Below w.heap.size w w' := by
  have r0 : row ((w.alloc (.cells P.cells 24)).alloc (.cells x.cells 26)) w.heap.size = some P.cells := (by (repeat (first | assumption | (refine row_at _ _ _ _ ?_; first | rfl | (simp only [World.size_alloc]; done) | (simp only [World.size_alloc]; omega)) | (refine (row_past _ _ _ ?_).trans ?_; (focus (first | exact Nat.lt_succ_self _ | ((repeat rw [World.size_alloc]); omega) | (simp; done) | (simp; omega) | omega))) | rw [row_drewN] | rw [row_drew])); (first | done | fail))
  have s0 : row ((w.alloc (.cells P.cells 24)).alloc (.cells x.cells 26)) (w.heap.size + 1) = some x.cells := (by (repeat (first | assumption | (refine row_at _ _ _ _ ?_; first | rfl | (simp only [World.size_alloc]; done) | (simp only [World.size_alloc]; omega)) | (refine (row_past _ _ _ ?_).trans ?_; (focus (first | exact Nat.lt_succ_self _ | ((repeat rw [World.size_alloc]); omega) | (simp; done) | (simp; omega) | omega))) | rw [row_drewN] | rw [row_drew])); (first | done | fail))
  have hB0 : Below w.heap.size w ((w.alloc (.cells P.cells 24)).alloc (.cells x.cells 26)) := (by (repeat (first | exact Below.refl _ _ | assumption | (refine Below.allocT ?_ _) | refine Below.drew ?_ | refine below_drewN ?_ _ | (refine Below.then ?_ (by assumption)) | (refine Below.setRow ?_ ?_ _; rotate_left; (focus (first | exact Nat.lt_succ_self _ | ((repeat rw [World.size_alloc]); omega) | (simp; done) | (simp; omega) | omega))) | (refine Below.setCell ?_ ?_ _; rotate_left; (focus (first | exact Nat.lt_succ_self _ | ((repeat rw [World.size_alloc]); omega) | (simp; done) | (simp; omega) | omega))) | (refine Below.then' ?_ (by assumption) ?_; rotate_left; (focus (first | exact Nat.lt_succ_self _ | ((repeat rw [World.size_alloc]); omega) | (simp; done) | (simp; omega) | omega))) | fail)); (first | done | fail))
  have HO := Lib.hid (fun W => bof_any P x.bal hx.bal W)
  have HM := Lib.hid (fun W => bmint_any P x.bal x.eff x.score x.streak hx.bal hx.eff hx.score W)
  have HR := Lib.hid (fun W => right_any P W)
  cases hr : rightB P
  · rw [show budV P x.bal = 0 by simp [budV, hr]] at HO HM
    rw [show mintN 0 x.eff x.score (leaksB x.streak) = 0 by unfold mintN; split; rfl; split <;> rfl] at HM
    rw [hr] at HR
    clear hr hx
    go_enter Try.func3, Try.ntmps3
    go_wp2_with fail
    generalize (w.alloc (.cells P.cells 24)).alloc (.cells x.cells 26) = w0 at *
    refine (awake13_any _).mono ?_
    rintro e w1 ⟨rfl, hb1⟩
    have r1 := (row_below hb1 (row_lt r0)).trans r0
    have s1 := (row_below hb1 (row_lt s0)).trans s0
    have hB1 := Below.then hB0 hb1
    clear r0 s0 hB0 hb1
    go_wp2_with fail
    have HX : Hid (∀ w', Below w1.heap.size w1 w' → row w' w.heap.size = some P.cells ∧ ∀ i, w'.cell? ⟨w.heap.size + 1, i, none⟩ = x.cells[i]?) := Lib.hid fun w' h => ⟨(row_below h (row_lt r1)).trans r1, fun i => row_cell ((row_below h (row_lt s1)).trans s1) i⟩
    (refine wp_region_calm (by kernel_rfl) (by kernel_rfl) ?_; (repeat (first | go_big_quiet_skip | (go_big_quiet_want; apply calm_val; (focus (intro w' hb'; obtain ⟨c1, c2⟩ := HX.out w' hb'; first | exact par_quiet rfl c1 rfl | (unfold Oper.quietAt; go_simp; first | rfl | (go_at_call 13; exact calm_call hb' (HO.out _)) | (go_at_call 14; exact calm_call hb' (HM.out _))))); (try simp only [Act.put, List.setIfInBounds_toArray, List.set_cons_zero, List.set_cons_succ]); go_big_quiet_on))); refine wpQuiet_nil ?_; intro w' hb')
    have r2 := (row_below hb' (row_lt r1)).trans r1
    have hB2 := Below.then hB1 hb'
    generalize w' = w2 at *
    clear r1 s1 hB1 hb' HX
    go_wp2_with fail
    refine (plain_any P _).mono ?_
    rintro e w3 ⟨rfl, hb3⟩
    have hB3 := Below.then hB2 hb3
    clear r2 hB2 hb3
    have p4 := row_at w3 P.cells 30 _ rfl
    have hB4 := Below.allocT hB3 (.cells P.cells 30)
    go_wp2_with fail
    clear  hB3
    generalize w3.alloc (.cells P.cells 30) = w4 at *
    refine (HR.out _).mono ?_
    rintro e w5 ⟨rfl, hb5⟩
    have hB5 := Below.then hB4 hb5
    clear p4 hB4 hb5
    go_wp2_with fail
    go_ret
    exact ⟨rfl, hB5⟩
  · rw [show budV P x.bal = budN P x.bal by simp [budV, hr]] at HO HM
    rw [hr] at HR
    have hrate := (others_facts (right_facts hr).2.2.1).1
    have HRO := Lib.hid (fun W => rbof_any P x.bal hx.bal hrate W)
    have HRM := Lib.hid (fun W => rbmint_any P x.bal x.eff x.score (leaksB x.streak) hx.bal hx.eff hx.score hrate W)
    have HL := Lib.hid (fun W => same_below (rleaks_any x.streak W))
    generalize budN P x.bal = n at *
    generalize leaksB x.streak = lk at *
    generalize mintN n x.eff x.score lk = mm at *
    clear hr hx hrate
    go_enter Try.func3, Try.ntmps3
    go_wp2_with fail
    generalize (w.alloc (.cells P.cells 24)).alloc (.cells x.cells 26) = w0 at *
    refine (awake13_any _).mono ?_
    rintro e w1 ⟨rfl, hb1⟩
    have r1 := (row_below hb1 (row_lt r0)).trans r0
    have s1 := (row_below hb1 (row_lt s0)).trans s0
    have hB1 := Below.then hB0 hb1
    clear r0 s0 hB0 hb1
    go_wp2_with fail
    have HX : Hid (∀ w', Below w1.heap.size w1 w' → row w' w.heap.size = some P.cells ∧ ∀ i, w'.cell? ⟨w.heap.size + 1, i, none⟩ = x.cells[i]?) := Lib.hid fun w' h => ⟨(row_below h (row_lt r1)).trans r1, fun i => row_cell ((row_below h (row_lt s1)).trans s1) i⟩
    (refine wp_region_calm (by kernel_rfl) (by kernel_rfl) ?_; (repeat (first | go_big_quiet_skip | (go_big_quiet_want; apply calm_val; (focus (intro w' hb'; obtain ⟨c1, c2⟩ := HX.out w' hb'; first | exact par_quiet rfl c1 rfl | (unfold Oper.quietAt; go_simp; first | rfl | (go_at_call 13; exact calm_call hb' (HO.out _)) | (go_at_call 14; exact calm_call hb' (HM.out _))))); (try simp only [Act.put, List.setIfInBounds_toArray, List.set_cons_zero, List.set_cons_succ]); go_big_quiet_on))); refine wpQuiet_nil ?_; intro w' hb')
    have r2 := (row_below hb' (row_lt r1)).trans r1
    have s2 := (row_below hb' (row_lt s1)).trans s1
    have hB2 := Below.then hB1 hb'
    generalize w' = w2 at *
    clear r1 s1 hB1 hb' HX
    go_wp2_with fail
    refine (plain_any P _).mono ?_
    rintro e w3 ⟨rfl, hb3⟩
    have s3 := (row_below hb3 (row_lt s2)).trans s2
    have hB3 := Below.then hB2 hb3
    clear r2 s2 hB2 hb3
    have s4 := (row_past w3 (.cells P.cells 30) _ (row_lt s3)).trans s3
    have p4 := row_at w3 P.cells 30 _ rfl
    have hB4 := Below.allocT hB3 (.cells P.cells 30)
    have ls3 := row_lt s3
    have gs4 := ls3
    go_wp2_with fail
    clear s3 ls3 hB3
    generalize w3.alloc (.cells P.cells 30) = w4 at *
    refine (HR.out _).mono ?_
    rintro e w5 ⟨rfl, hb5⟩
    have s5 := (row_below hb5 (row_lt s4)).trans s4
    have p5 := (row_below hb5 (row_lt p4)).trans p4
    have hB5 := Below.then hB4 hb5
    clear s4 p4 hB4 hb5
    go_wp2_with fail
    have HX : Hid (∀ w', Below w5.heap.size w5 w' → row w' w3.heap.size = some P.cells ∧ ∀ i, w'.cell? ⟨w.heap.size + 1, i, none⟩ = x.cells[i]?) := Lib.hid fun w' h => ⟨(row_below h (row_lt p5)).trans p5, fun i => row_cell ((row_below h (row_lt s5)).trans s5) i⟩
    (refine wp_region_calm (by kernel_rfl) (by kernel_rfl) ?_; (repeat (first | go_big_quiet_skip | (go_big_quiet_want; apply calm_val; (focus (intro w' hb'; obtain ⟨c1, c2⟩ := HX.out w' hb'; first | exact rpar_quiet rfl c1 rfl | (unfold Oper.quietAt; go_simp; first | rfl | (go_at_call 17; exact calm_call hb' (HRO.out _)) | (go_at_call 19; exact calm_call hb' (HL.out _)) | (go_at_call 18; exact calm_call hb' (HRM.out _))))); (try simp only [Act.put, List.setIfInBounds_toArray, List.set_cons_zero, List.set_cons_succ]); go_big_quiet_on))); refine wpQuiet_nil ?_; intro w' hb')
    go_wp2_with fail
    go_ret
    exact ⟨rfl, Below.then hB5 hb'⟩
set_option maxHeartbeats 4000000 in
set_option maxRecDepth 100000 in
theorem budgetCaps_any (P : Par) (x : St) (hx : x.Ok) (w : World) : Calls Try.prog 4 #[.agg P.cells, .agg x.cells] w fun e w' => e = .returned (.bool true) ∧ Below w.heap.size w w' := by
  have r0 : row ((w.alloc (.cells P.cells 24)).alloc (.cells x.cells 26)) w.heap.size = some P.cells := (by (repeat (first | assumption | (refine row_at _ _ _ _ ?_; first | rfl | (simp only [World.size_alloc]; done) | (simp only [World.size_alloc]; omega)) | (refine (row_past _ _ _ ?_).trans ?_; (focus (first | exact Nat.lt_succ_self _ | ((repeat rw [World.size_alloc]); omega) | (simp; done) | (simp; omega) | omega))) | rw [row_drewN] | rw [row_drew])); (first | done | fail))
  have s0 : row ((w.alloc (.cells P.cells 24)).alloc (.cells x.cells 26)) (w.heap.size + 1) = some x.cells := (by (repeat (first | assumption | (refine row_at _ _ _ _ ?_; first | rfl | (simp only [World.size_alloc]; done) | (simp only [World.size_alloc]; omega)) | (refine (row_past _ _ _ ?_).trans ?_; (focus (first | exact Nat.lt_succ_self _ | ((repeat rw [World.size_alloc]); omega) | (simp; done) | (simp; omega) | omega))) | rw [row_drewN] | rw [row_drew])); (first | done | fail))
  have hB0 : Below w.heap.size w ((w.alloc (.cells P.cells 24)).alloc (.cells x.cells 26)) := (by (repeat (first | exact Below.refl _ _ | assumption | (refine Below.allocT ?_ _) | refine Below.drew ?_ | refine below_drewN ?_ _ | (refine Below.then ?_ (by assumption)) | (refine Below.setRow ?_ ?_ _; rotate_left; (focus (first | exact Nat.lt_succ_self _ | ((repeat rw [World.size_alloc]); omega) | (simp; done) | (simp; omega) | omega))) | (refine Below.setCell ?_ ?_ _; rotate_left; (focus (first | exact Nat.lt_succ_self _ | ((repeat rw [World.size_alloc]); omega) | (simp; done) | (simp; omega) | omega))) | (refine Below.then' ?_ (by assumption) ?_; rotate_left; (focus (first | exact Nat.lt_succ_self _ | ((repeat rw [World.size_alloc]); omega) | (simp; done) | (simp; omega) | omega))) | fail)); (first | done | fail))
  have HO := Lib.hid (fun W => bof_any P x.bal hx.bal W)
  have HM := Lib.hid (fun W => bmint_any P x.bal x.eff x.score x.streak hx.bal hx.eff hx.score W)
  have hnl := budV_lt P x.bal
  have hef := hx.eff
  have hmo := hx.score
  generalize budV P x.bal = n at *
  have hcase : (mintN n x.eff x.score (leaksB x.streak) = 0) ∨ (mintN n x.eff x.score (leaksB x.streak) = n ∧ ¬ n = 0 ∧ ¬ x.streak = 3 ∧ ¬ x.streak = 4 ∧ x.eff + n ≤ x.score) := by
    by_cases hn : n = 0
    · left; unfold mintN; rw [hn]; split; rfl; split <;> rfl
    · cases hl : leaksB x.streak
      · by_cases hc : x.eff + n ≤ x.score
        · right
          simp [leaksB] at hl
          exact ⟨by unfold mintN; rw [if_neg (by simp), if_pos hc], hn, hl.1, hl.2, hc⟩
        · left; unfold mintN; rw [if_neg (by simp), if_neg hc]
      · left; unfold mintN; rw [if_pos rfl]
  rcases hcase with hm | ⟨hm, hn, h3, h4, hle⟩
  · rw [hm] at HM
    have HA := Lib.hid (fun W => madd_any x.eff 0 hef (by omega) W)
    generalize fit (x.eff + 0) = fa at *
    generalize toldE (x.eff + 0) = te at *
    clear hm hx hnl hef hmo
    go_enter Try.func4, Try.ntmps4
    go_wp2_with fail
    generalize (w.alloc (.cells P.cells 24)).alloc (.cells x.cells 26) = w0 at *
    refine (awake13_any _).mono ?_
    rintro e w1 ⟨rfl, hb1⟩
    have r1 := (row_below hb1 (row_lt r0)).trans r0
    have s1 := (row_below hb1 (row_lt s0)).trans s0
    have hB1 := Below.then hB0 hb1
    clear r0 s0 hB0 hb1
    go_wp2_with fail
    have HX : Hid (∀ w', Below w1.heap.size w1 w' → row w' w.heap.size = some P.cells ∧ ∀ i, w'.cell? ⟨w.heap.size + 1, i, none⟩ = x.cells[i]?) := Lib.hid fun w' h => ⟨(row_below h (row_lt r1)).trans r1, fun i => row_cell ((row_below h (row_lt s1)).trans s1) i⟩
    (refine wp_region_calm (by kernel_rfl) (by kernel_rfl) ?_; (repeat (first | go_big_quiet_skip | (go_big_quiet_want; apply calm_val; (focus (intro w' hb'; obtain ⟨c1, c2⟩ := HX.out w' hb'; first | exact par_quiet rfl c1 rfl | (unfold Oper.quietAt; go_simp; first | rfl | (go_at_call 13; exact calm_call hb' (HO.out _)) | (go_at_call 14; exact calm_call hb' (HM.out _))))); (try simp only [Act.put, List.setIfInBounds_toArray, List.set_cons_zero, List.set_cons_succ]); go_big_quiet_on))); refine wpQuiet_nil ?_; intro w' hb')
    have c2 := fun i => row_cell ((row_below hb' (row_lt s1)).trans s1) i
    have hB2 := Below.then hB1 hb'
    clear r1 s1 hB1 hb' HX
    go_wp2_with fail
    refine (HA.out _).mono ?_
    rintro e w3 ⟨rfl, rfl⟩
    go_wp2_with fail
    go_ret
    exact ⟨rfl, hB2⟩
  · rw [hm] at HM
    have HA := Lib.hid (fun W => madd_any x.eff n hef hnl W)
    rw [fit_le (show x.eff + n ≤ 18446744073709551615 by omega), told_le (show x.eff + n ≤ 18446744073709551615 by omega)] at HA
    obtain ⟨sm, hsm⟩ : ∃ sm, sm = x.eff + n := ⟨_, rfl⟩
    rw [← hsm] at HA hle
    have k0 : ((n : Int) == 0) = false := beq_eq_false_iff_ne.2 (by omega)
    have k1 : ((n : Int) != 0) = true := bne_iff_ne.2 (by omega)
    have k3 : (x.streak == 3) = false := beq_eq_false_iff_ne.2 h3
    have k4 : (x.streak == 4) = false := beq_eq_false_iff_ne.2 h4
    clear hm hx hnl hef hmo hsm hn h3 h4
    go_enter Try.func4, Try.ntmps4
    go_wp2_with fail
    generalize (w.alloc (.cells P.cells 24)).alloc (.cells x.cells 26) = w0 at *
    refine (awake13_any _).mono ?_
    rintro e w1 ⟨rfl, hb1⟩
    have r1 := (row_below hb1 (row_lt r0)).trans r0
    have s1 := (row_below hb1 (row_lt s0)).trans s0
    have hB1 := Below.then hB0 hb1
    clear r0 s0 hB0 hb1
    go_wp2_with fail
    have HX : Hid (∀ w', Below w1.heap.size w1 w' → row w' w.heap.size = some P.cells ∧ ∀ i, w'.cell? ⟨w.heap.size + 1, i, none⟩ = x.cells[i]?) := Lib.hid fun w' h => ⟨(row_below h (row_lt r1)).trans r1, fun i => row_cell ((row_below h (row_lt s1)).trans s1) i⟩
    (refine wp_region_calm (by kernel_rfl) (by kernel_rfl) ?_; (repeat (first | go_big_quiet_skip | (go_big_quiet_want; apply calm_val; (focus (intro w' hb'; obtain ⟨c1, c2⟩ := HX.out w' hb'; first | exact par_quiet rfl c1 rfl | (unfold Oper.quietAt; go_simp; first | rfl | (go_at_call 13; exact calm_call hb' (HO.out _)) | (go_at_call 14; exact calm_call hb' (HM.out _))))); (try simp only [Act.put, List.setIfInBounds_toArray, List.set_cons_zero, List.set_cons_succ]); go_big_quiet_on))); refine wpQuiet_nil ?_; intro w' hb')
    have c2 := fun i => row_cell ((row_below hb' (row_lt s1)).trans s1) i
    have hB2 := Below.then hB1 hb'
    clear r1 s1 hB1 hb' HX
    go_wp2_with fail
    refine (HA.out _).mono ?_
    rintro e w3 ⟨rfl, rfl⟩
    go_wp2_with fail
    go_ret
    exact ⟨rfl, hB2⟩
end Go.Proofs.Ytkfbnaafpikgfaa
