/-
  The walks of GrainStays and GrainNexts: they answer true whatever the arguments.
-/
import Derived.Test.YtncobbhhjkdllaaLaw10
import Derived.Test.YtncobbhhjkdllaaCalm
namespace Go.Proofs.Ytncobbhhjkdllaa
open Go.RowKit
set_option linter.unusedVariables false

theorem nextV_lt {P : Par} {e b : Nat} (he : e < 18446744073709551616) (hb : b < 18446744073709551616) : nextV P e b < 18446744073709551616 := by
  have := (whole_le P b).1
  unfold nextV nextN
  split
  · split <;> omega
  · omega
theorem wholeV_lt {P : Par} {b : Nat} (hb : b < 18446744073709551616) : wholeV P b < 18446744073709551616 := by
  have := (whole_le P b).1
  unfold wholeV
  split <;> omega
set_option maxHeartbeats 8000000 in
set_option maxRecDepth 100000 in
theorem grainStays_any (P : Par) (eff A B : Nat) (he : eff < 18446744073709551616) (hA : A < 18446744073709551616) (hB : B < 18446744073709551616) (w : World) :
    Calls Try.prog 3 #[.agg P.cells, .int .u64 eff, .agg #[.int .u64 A, .int .u64 B]] w fun e w' => e = .returned (.bool true) ∧ Below w.heap.size w w' := by
  have r0 : row ((w.alloc (.cells P.cells 24)).alloc (.cells #[.int .u64 A, .int .u64 B] 26)) w.heap.size = some P.cells := (by (repeat (first | assumption | (refine row_at _ _ _ _ ?_; first | rfl | (simp only [World.size_alloc]; done) | (simp only [World.size_alloc]; omega)) | (refine (row_past _ _ _ ?_).trans ?_; (focus (first | exact Nat.lt_succ_self _ | ((repeat rw [World.size_alloc]); omega) | (simp; done) | (simp; omega) | omega))) | rw [row_drewN] | rw [row_drew])); (first | done | fail))
  have s0 : row ((w.alloc (.cells P.cells 24)).alloc (.cells #[.int .u64 A, .int .u64 B] 26)) (w.heap.size + 1) = some #[.int .u64 A, .int .u64 B] := (by (repeat (first | assumption | (refine row_at _ _ _ _ ?_; first | rfl | (simp only [World.size_alloc]; done) | (simp only [World.size_alloc]; omega)) | (refine (row_past _ _ _ ?_).trans ?_; (focus (first | exact Nat.lt_succ_self _ | ((repeat rw [World.size_alloc]); omega) | (simp; done) | (simp; omega) | omega))) | rw [row_drewN] | rw [row_drew])); (first | done | fail))
  have hB0 : Below w.heap.size w ((w.alloc (.cells P.cells 24)).alloc (.cells #[.int .u64 A, .int .u64 B] 26)) := (by (repeat (first | exact Below.refl _ _ | assumption | (refine Below.allocT ?_ _) | refine Below.drew ?_ | refine below_drewN ?_ _ | (refine Below.then ?_ (by assumption)) | (refine Below.setRow ?_ ?_ _; rotate_left; (focus (first | exact Nat.lt_succ_self _ | ((repeat rw [World.size_alloc]); omega) | (simp; done) | (simp; omega) | omega))) | (refine Below.setCell ?_ ?_ _; rotate_left; (focus (first | exact Nat.lt_succ_self _ | ((repeat rw [World.size_alloc]); omega) | (simp; done) | (simp; omega) | omega))) | (refine Below.then' ?_ (by assumption) ?_; rotate_left; (focus (first | exact Nat.lt_succ_self _ | ((repeat rw [World.size_alloc]); omega) | (simp; done) | (simp; omega) | omega))) | fail)); (first | done | fail))
  have hn := nextV_lt (P := P) he hA
  have HN1 := Lib.hid (fun W => gnext_any P eff A he hA W)
  have HN2 := Lib.hid (fun W => gnext_any P (nextV P eff A) A hn hA W)
  rw [show nextV P (nextV P eff A) A = nextV P eff A by
    cases hr : rightB P
    · simp [nextV, hr]
    · simp only [nextV, hr, if_true]; exact next_stays (right_facts hr).1 eff A] at HN2
  generalize nextV P eff A = n at *
  have HR := Lib.hid (fun W => right_any P W)
  have HW := Lib.hid (fun W => gwhole_any P B hB W)
  have HFW := Lib.hid (fun W => gfits_any P (wholeV P B) B (wholeV_lt hB) hB W)
  have HFA := Lib.hid (fun W => gfits_any P eff A he hA W)
  have HNB := Lib.hid (fun W => gnext_any P eff B he hB W)
  have HFN := Lib.hid (fun W => gfits_any P (nextV P eff B) B (nextV_lt he hB) hB W)
  by_cases hfl : B ≤ P.floor
  · clear HR HW HFW HFA HNB HFN
    go_enter Try.func3, Try.ntmps3
    go_wp2_with fail
    generalize (w.alloc (.cells P.cells 24)).alloc (.cells #[.int .u64 A, .int .u64 B] 26) = W at *
    refine (awake10_any _).mono ?_
    rintro e w1 ⟨rfl, hb1⟩
    have r1 := (row_below hb1 (row_lt r0)).trans r0
    have s1 := (row_below hb1 (row_lt s0)).trans s0
    have hB1 := Below.then hB0 hb1
    have hc1 : ∀ i, w1.cell? ⟨w.heap.size + 1, i, none⟩ = #[Value.int .u64 A, Value.int .u64 B][i]? := fun i => row_cell s1 i
    clear r0 s0 hB0 hb1
    go_wp2_with fail
    refine (HN1.out _).mono ?_
    rintro e w2 ⟨rfl, hb2⟩
    have r2 := (row_below hb2 (row_lt r1)).trans r1
    have s2 := (row_below hb2 (row_lt s1)).trans s1
    have hB2 := Below.then hB1 hb2
    have hc2 : ∀ i, w2.cell? ⟨w.heap.size + 1, i, none⟩ = #[Value.int .u64 A, Value.int .u64 B][i]? := fun i => row_cell s2 i
    clear r1 s1 hB1 hb2 hc1
    go_wp2_with fail
    refine (HN2.out _).mono ?_
    rintro e w3 ⟨rfl, hb3⟩
    have r3 := (row_below hb3 (row_lt r2)).trans r2
    have s3 := (row_below hb3 (row_lt s2)).trans s2
    have hB3 := Below.then hB2 hb3
    have hc3 : ∀ i, w3.cell? ⟨w.heap.size + 1, i, none⟩ = #[Value.int .u64 A, Value.int .u64 B][i]? := fun i => row_cell s3 i
    have hc4 : ∀ i, w3.cell? ⟨w.heap.size, i, none⟩ = P.cells[i]? := fun i => row_cell r3 i
    clear r2 s2 hB2 hb3 hc2
    go_wp2_with fail
    go_ret
    exact ⟨rfl, hB3⟩
  · cases hr : rightB P
    · rw [hr] at HR
      clear HW HFW HFA HNB HFN hr
      go_enter Try.func3, Try.ntmps3
      go_wp2_with fail
      generalize (w.alloc (.cells P.cells 24)).alloc (.cells #[.int .u64 A, .int .u64 B] 26) = W at *
      refine (awake10_any _).mono ?_
      rintro e w1 ⟨rfl, hb1⟩
      have r1 := (row_below hb1 (row_lt r0)).trans r0
      have s1 := (row_below hb1 (row_lt s0)).trans s0
      have hB1 := Below.then hB0 hb1
      have hc1 : ∀ i, w1.cell? ⟨w.heap.size + 1, i, none⟩ = #[Value.int .u64 A, Value.int .u64 B][i]? := fun i => row_cell s1 i
      clear r0 s0 hB0 hb1
      go_wp2_with fail
      refine (HN1.out _).mono ?_
      rintro e w2 ⟨rfl, hb2⟩
      have r2 := (row_below hb2 (row_lt r1)).trans r1
      have s2 := (row_below hb2 (row_lt s1)).trans s1
      have hB2 := Below.then hB1 hb2
      have hc2 : ∀ i, w2.cell? ⟨w.heap.size + 1, i, none⟩ = #[Value.int .u64 A, Value.int .u64 B][i]? := fun i => row_cell s2 i
      clear r1 s1 hB1 hb2 hc1
      go_wp2_with fail
      refine (HN2.out _).mono ?_
      rintro e w3 ⟨rfl, hb3⟩
      have r3 := (row_below hb3 (row_lt r2)).trans r2
      have s3 := (row_below hb3 (row_lt s2)).trans s2
      have hB3 := Below.then hB2 hb3
      have hc3 : ∀ i, w3.cell? ⟨w.heap.size + 1, i, none⟩ = #[Value.int .u64 A, Value.int .u64 B][i]? := fun i => row_cell s3 i
      have hc4 : ∀ i, w3.cell? ⟨w.heap.size, i, none⟩ = P.cells[i]? := fun i => row_cell r3 i
      clear r2 s2 hB2 hb3 hc2
      go_wp2_with fail
      refine (plain_any P _).mono ?_
      rintro e w4 ⟨rfl, hb4⟩
      have hB4 := Below.then hB3 hb4
      go_wp2_with fail
      refine (HR.out _).mono ?_
      rintro e w5 ⟨rfl, hb5⟩
      go_wp2_with fail
      go_ret
      exact ⟨rfl, Below.then hB4 hb5⟩
    · have hst := (right_facts hr).1
      rw [show fitsV P (wholeV P B) B = true by simp only [fitsV, wholeV, hr, if_true, Bool.true_and]; exact whole_fits hst (by omega)] at HFW
      have HFX : Hid (fitsV P eff A = true → fitsV P (nextV P eff B) B = true) := Lib.hid fun h => by
        simp only [fitsV, nextV, hr, if_true, Bool.true_and] at h ⊢
        exact next_fits hst h (by omega)
      rw [hr] at HR
      clear hst hr
      generalize wholeV P B = wv at *
      cases hfa : fitsV P eff A
      all_goals
        first | (rw [HFX.out hfa] at HFN) | skip
        rw [hfa] at HFA
        generalize nextV P eff B = nb at *
        generalize fitsV P nb B = fb at *
        clear HFX hfa
        go_enter Try.func3, Try.ntmps3
        go_wp2_with fail
        generalize (w.alloc (.cells P.cells 24)).alloc (.cells #[.int .u64 A, .int .u64 B] 26) = W at *
        refine (awake10_any _).mono ?_
        rintro e w1 ⟨rfl, hb1⟩
        have r1 := (row_below hb1 (row_lt r0)).trans r0
        have s1 := (row_below hb1 (row_lt s0)).trans s0
        have hB1 := Below.then hB0 hb1
        have hc1 : ∀ i, w1.cell? ⟨w.heap.size + 1, i, none⟩ = #[Value.int .u64 A, Value.int .u64 B][i]? := fun i => row_cell s1 i
        clear r0 s0 hB0 hb1
        go_wp2_with fail
        refine (HN1.out _).mono ?_
        rintro e w2 ⟨rfl, hb2⟩
        have r2 := (row_below hb2 (row_lt r1)).trans r1
        have s2 := (row_below hb2 (row_lt s1)).trans s1
        have hB2 := Below.then hB1 hb2
        have hc2 : ∀ i, w2.cell? ⟨w.heap.size + 1, i, none⟩ = #[Value.int .u64 A, Value.int .u64 B][i]? := fun i => row_cell s2 i
        clear r1 s1 hB1 hb2 hc1
        go_wp2_with fail
        refine (HN2.out _).mono ?_
        rintro e w3 ⟨rfl, hb3⟩
        have r3 := (row_below hb3 (row_lt r2)).trans r2
        have s3 := (row_below hb3 (row_lt s2)).trans s2
        have hB3 := Below.then hB2 hb3
        have hc3 : ∀ i, w3.cell? ⟨w.heap.size + 1, i, none⟩ = #[Value.int .u64 A, Value.int .u64 B][i]? := fun i => row_cell s3 i
        have hc4 : ∀ i, w3.cell? ⟨w.heap.size, i, none⟩ = P.cells[i]? := fun i => row_cell r3 i
        clear r2 s2 hB2 hb3 hc2
        go_wp2_with fail
        refine (plain_any P _).mono ?_
        rintro e w4 ⟨rfl, hb4⟩
        have r4 := (row_below hb4 (row_lt r3)).trans r3
        have s4 := (row_below hb4 (row_lt s3)).trans s3
        have hB4 := Below.then hB3 hb4
        clear hc3 hc4 r3 s3 hB3 hb4
        go_wp2_with fail
        refine (HR.out _).mono ?_
        rintro e w5 ⟨rfl, hb5⟩
        have r5 := (row_below hb5 (row_lt r4)).trans r4
        have s5 := (row_below hb5 (row_lt s4)).trans s4
        have hB5 := Below.then hB4 hb5
        clear r4 s4 hB4 hb5
        go_wp2_with fail
        have HM : Hid (∀ w', Below w5.heap.size w5 w' → row w' w.heap.size = some P.cells ∧ (∀ i, w'.cell? ⟨w.heap.size + 1, i, none⟩ = #[Value.int .u64 A, Value.int .u64 B][i]?)) := Lib.hid fun w' h =>
          ⟨(row_below h (row_lt r5)).trans r5, fun i => row_cell ((row_below h (row_lt s5)).trans s5) i⟩
        clear r5 s5
        (refine wp_region_calm (by kernel_rfl) (by kernel_rfl) ?_; (repeat (first | go_big_quiet_skip | (go_big_quiet_want; apply calm_val; (focus (intro w' hb'; obtain ⟨c1, c2⟩ := HM.out w' hb'; first | exact par_quiet rfl c1 rfl | (unfold Oper.quietAt; go_simp; first | rfl | (go_at_call 19; exact calm_call hb' (HW.out _)) | (go_at_call 15; exact calm_call hb' (HNB.out _)) | (go_at_call_of 18 eff; exact calm_call hb' (HFA.out _)) | (go_at_call_of 18 wv; exact calm_call hb' (HFW.out _)) | (go_at_call_of 18 nb; exact calm_call hb' (HFN.out _))))); (try simp only [Act.put, List.setIfInBounds_toArray, List.set_cons_zero, List.set_cons_succ]); go_big_quiet_on))); refine wpQuiet_nil ?_; intro w' hb')
        go_wp2_with fail
        go_ret
        exact ⟨rfl, (by (repeat (first | exact Below.refl _ _ | assumption | (refine Below.allocT ?_ _) | refine Below.drew ?_ | refine below_drewN ?_ _ | (refine Below.then ?_ (by assumption)) | (refine Below.setRow ?_ ?_ _; rotate_left; (focus (first | exact Nat.lt_succ_self _ | ((repeat rw [World.size_alloc]); omega) | (simp; done) | (simp; omega) | omega))) | (refine Below.setCell ?_ ?_ _; rotate_left; (focus (first | exact Nat.lt_succ_self _ | ((repeat rw [World.size_alloc]); omega) | (simp; done) | (simp; omega) | omega))) | (refine Below.then' ?_ (by assumption) ?_; rotate_left; (focus (first | exact Nat.lt_succ_self _ | ((repeat rw [World.size_alloc]); omega) | (simp; done) | (simp; omega) | omega))) | fail)); (first | done | fail))⟩
end Go.Proofs.Ytncobbhhjkdllaa
