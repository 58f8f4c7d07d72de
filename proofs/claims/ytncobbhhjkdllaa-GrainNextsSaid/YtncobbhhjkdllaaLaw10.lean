/-
  The walks of the statements of layer 10: they answer true whatever the arguments.
-/
import Derived.Test.YtncobbhhjkdllaaGrain2
import Derived.Test.YtncobbhhjkdllaaFrame
namespace Go.Proofs.Ytncobbhhjkdllaa
open Go.RowKit
set_option linter.unusedVariables false
open Go.ChangeShapes Go.WideShapes Go.ChangeAt

/-! ### The plain law of grains -/
theorem steps_of (P : Par) (b : Nat) : ∃ k, b - b % P.inc = P.inc * k ∧ k = b / P.inc := by
  have := Nat.div_add_mod b P.inc
  exact ⟨b / P.inc, by omega, rfl⟩
theorem whole_mod {P : Par} (h : stakesB P = true) (b : Nat) : wholeN P b % P.inc = 0 := by
  have hm := (stakes_facts h).2.2.2.2.2.2.2.2.2.2.2
  obtain ⟨k, hk, _⟩ := steps_of P b
  unfold wholeN
  rw [hk]
  rcases Nat.le_total (P.inc * k) P.maxEff with hle | hle
  · rw [Nat.min_eq_left hle]; exact Nat.mul_mod_right _ _
  · rw [Nat.min_eq_right hle]; exact hm
theorem whole_le (P : Par) (b : Nat) : wholeN P b ≤ b ∧ wholeN P b ≤ P.maxEff := by unfold wholeN; omega
theorem whole_near {P : Par} (h : 1 ≤ P.inc) (b : Nat) : wholeN P b = P.maxEff ∨ b < wholeN P b + P.inc := by
  have := Nat.mod_lt b (show 0 < P.inc by omega)
  unfold wholeN; omega
theorem whole_ge {P : Par} (h : 1 ≤ P.inc) {e b : Nat} (hm : e % P.inc = 0) (h1 : e ≤ b) (h2 : e ≤ P.maxEff) : e ≤ wholeN P b := by
  have hd := Nat.div_add_mod e P.inc
  obtain ⟨k, hk, hkd⟩ := steps_of P b
  have : e / P.inc ≤ k := by rw [hkd]; exact Nat.div_le_div_right h1
  have h3 : P.inc * (e / P.inc) ≤ P.inc * k := Nat.mul_le_mul_left _ this
  unfold wholeN; omega
theorem far_no {P : Par} {e b : Nat} (h1 : e ≤ b + P.down) (h2 : b ≤ e + P.up) : farB P e b = false := by
  unfold farB; rw [Bool.eq_iff_iff]; simp; omega
theorem far_yes {P : Par} {e b : Nat} (h : farB P e b = true) : b + P.down < e ∨ e + P.up < b := by
  simpa [farB] using h
/-- What followed is left as it is. -/
theorem next_stays {P : Par} (h : stakesB P = true) (e b : Nat) : nextN P (nextN P e b) b = nextN P e b := by
  have hs := stakes_facts h
  cases hf : farB P e b
  · have : nextN P e b = e := by simp [nextN, hf]
    rw [this, this]
  · have hn : nextN P e b = wholeN P b := by simp [nextN, hf]
    rw [hn]
    cases hf2 : farB P (wholeN P b) b
    · simp [nextN, hf2]
    · simp [nextN, hf2]
theorem whole_fits {P : Par} (h : stakesB P = true) {b : Nat} (hb : P.floor < b) : fitsB P (wholeN P b) b = true := by
  have hs := stakes_facts h
  have hm := whole_mod h b
  have hl := whole_le P b
  have hn : nextN P (wholeN P b) b = wholeN P b := by unfold nextN; split <;> rfl
  have hg : P.inc ≤ wholeN P b := whole_ge hs.1 (Nat.mod_self _) (by omega) (by omega)
  simp [fitsB, hm, hn, hg, hl.2]
theorem fits_facts {P : Par} {e b : Nat} (h : fitsB P e b = true) : P.inc ≤ e ∧ e ≤ P.maxEff ∧ e % P.inc = 0 ∧ nextN P e b = e := by
  simpa [fitsB] using h
theorem next_fits {P : Par} (h : stakesB P = true) {e a b : Nat} (hf : fitsB P e a = true) (hb : P.floor < b) : fitsB P (nextN P e b) b = true := by
  obtain ⟨h1, h2, h3, h4⟩ := fits_facts hf
  cases hfar : farB P e b
  · have hn : nextN P e b = e := by simp [nextN, hfar]
    rw [hn]
    simp [fitsB, h1, h2, h3, hn]
  · have hn : nextN P e b = wholeN P b := by simp [nextN, hfar]
    rw [hn]; exact whole_fits h hb
/-- As a balance rises what fits never falls. -/
theorem next_rises {P : Par} (h : stakesB P = true) {e a b : Nat} (hf : fitsB P e a = true) (hab : a ≤ b) : e ≤ nextN P e b ∧ nextN P e b ≤ P.maxEff ∧ e ≤ a + P.down := by
  have hs := stakes_facts h
  obtain ⟨h1, h2, h3, h4⟩ := fits_facts hf
  have hd : e ≤ a + P.down := by
    rcases Nat.lt_or_ge (a + P.down) e with hlt | hge
    · have hfar : farB P e a = true := by unfold farB; simp [hlt]
      have hn : nextN P e a = wholeN P a := by simp [nextN, hfar]
      have := (whole_le P a).1
      omega
    · exact hge
  refine ⟨?_, ?_, hd⟩
  · cases hfar : farB P e b
    · have hn : nextN P e b = e := by simp [nextN, hfar]
      omega
    · have hn : nextN P e b = wholeN P b := by simp [nextN, hfar]
      rw [hn]
      rcases far_yes hfar with hlt | hlt
      · omega
      · exact whole_ge hs.1 h3 (by omega) h2
  · unfold nextN
    split
    · exact (whole_le P b).2
    · exact h2
set_option maxHeartbeats 1000000 in
theorem awake10_any (w : World) : Calls Try.prog 14 #[] w fun e w' => e = .returned (.bool true) ∧ Below w.heap.size w w' := by
  have H1 := Lib.hid (fun W => gwhole_any simpleP 27 (by omega) W)
  have H2 := Lib.hid (fun W => gnext_any simpleP 20 30 (by omega) (by omega) W)
  have H3 := Lib.hid (fun W => gnext_any simpleP 20 31 (by omega) (by omega) W)
  have H4 := Lib.hid (fun W => gnext_any simpleP 30 24 (by omega) (by omega) W)
  rw [show wholeV simpleP 27 = 20 by rw [wholeV, right_simple]; decide] at H1
  rw [show nextV simpleP 20 30 = 20 by rw [nextV, right_simple]; decide] at H2
  rw [show nextV simpleP 20 31 = 30 by rw [nextV, right_simple]; decide] at H3
  rw [show nextV simpleP 30 24 = 20 by rw [nextV, right_simple]; decide] at H4
  go_enter Try.func14, Try.ntmps14
  go_wp2_with fail
  refine (simple_any _).mono ?_
  rintro e w1 ⟨rfl, hb1⟩
  have r1 : row (w1.alloc (.cells simpleP.cells 24)) w1.heap.size = some simpleP.cells := (by (repeat (first | assumption | (refine row_at _ _ _ _ ?_; first | rfl | (simp only [World.size_alloc]; done) | (simp only [World.size_alloc]; omega)) | (refine (row_past _ _ _ ?_).trans ?_; (focus (first | exact Nat.lt_succ_self _ | ((repeat rw [World.size_alloc]); omega) | (simp; done) | (simp; omega) | omega))) | rw [row_drewN] | rw [row_drew])); (first | done | fail))
  have hB1 : Below w.heap.size w (w1.alloc (.cells simpleP.cells 24)) := (by (repeat (first | exact Below.refl _ _ | assumption | (refine Below.allocT ?_ _) | refine Below.drew ?_ | refine below_drewN ?_ _ | (refine Below.then ?_ (by assumption)) | (refine Below.setRow ?_ ?_ _; rotate_left; (focus (first | exact Nat.lt_succ_self _ | ((repeat rw [World.size_alloc]); omega) | (simp; done) | (simp; omega) | omega))) | (refine Below.setCell ?_ ?_ _; rotate_left; (focus (first | exact Nat.lt_succ_self _ | ((repeat rw [World.size_alloc]); omega) | (simp; done) | (simp; omega) | omega))) | (refine Below.then' ?_ (by assumption) ?_; rotate_left; (focus (first | exact Nat.lt_succ_self _ | ((repeat rw [World.size_alloc]); omega) | (simp; done) | (simp; omega) | omega))) | fail)); (first | done | fail))
  go_wp2_with fail
  generalize w1.alloc (.cells simpleP.cells 24) = W at *
  refine (H1.out _).mono ?_
  rintro e w2 ⟨rfl, hb2⟩
  have r2 := (row_below hb2 (row_lt r1)).trans r1
  have hB2 := Below.then hB1 hb2
  clear r1 hB1 hb2
  go_wp2_with fail
  refine (H2.out _).mono ?_
  rintro e w3 ⟨rfl, hb3⟩
  have r3 := (row_below hb3 (row_lt r2)).trans r2
  have hB3 := Below.then hB2 hb3
  clear r2 hB2 hb3
  go_wp2_with fail
  refine (H3.out _).mono ?_
  rintro e w4 ⟨rfl, hb4⟩
  have r4 := (row_below hb4 (row_lt r3)).trans r3
  have hB4 := Below.then hB3 hb4
  clear r3 hB3 hb4
  go_wp2_with fail
  refine (H4.out _).mono ?_
  rintro e w5 ⟨rfl, hb5⟩
  have hB5 := Below.then hB4 hb5
  go_wp2_with fail
  go_ret
  exact ⟨rfl, hB5⟩
theorem two10_under : Try.prog.underlying 26 = some (.struct (Try.prog.fieldsOf 26)) := by kernel_rfl
set_option maxRecDepth 100000 in
theorem open_two10 {H : Type} {enc : TypeId × Value → H} {W : World} {base : Nat} {spare : Nat → Bool} {held : Bool} {r : Reach} {b0 : Nat} {v : Value} {d : DataW H} {p : List MemPlace}
    (hv : Value.okWide Try.prog W r b0 26 v) (h : DataW.Trod enc Try.prog W base spare held 26 v d p) : ∃ (a b : Nat), v = .agg #[.int .u64 a, .int .u64 b] ∧ a < 18446744073709551616 ∧ b < 18446744073709551616 := by
  obtain ⟨⟨l⟩, rfl, _⟩ := okWide_struct two10_under hv
  obtain ⟨fuel, hf⟩ := h
  obtain ⟨hlen, hF⟩ := flat_cells two10_under hf
  have hlen' : l.length = 2 := hlen.trans (by kernel_rfl)
  obtain ⟨a0, e0, o0⟩ := at_u64 under_u64 cells_u64 (hF 0 22 0 (by kernel_rfl))
  obtain ⟨a1, e1, o1⟩ := at_u64 under_u64 cells_u64 (hF 1 22 1 (by kernel_rfl))
  have hl : l = [.int .u64 a0, .int .u64 a1] := list_ext 2 hlen' rfl (fun i hi => by
    match i with
    | 0 => exact e0
    | 1 => exact e1
    | n + 2 => omega)
  subst hl
  exact ⟨a0, a1, rfl, o0, o1⟩

set_option maxHeartbeats 2000000 in
theorem grainRises_any (P : Par) (eff A B : Nat) (he : eff < 18446744073709551616) (hA : A < 18446744073709551616) (hB : B < 18446744073709551616) (w : World) :
    Calls Try.prog 4 #[.agg P.cells, .int .u64 eff, .agg #[.int .u64 A, .int .u64 B]] w fun e w' => e = .returned (.bool true) ∧ Below w.heap.size w w' := by
  have r0 : row ((w.alloc (.cells P.cells 24)).alloc (.cells #[.int .u64 A, .int .u64 B] 26)) w.heap.size = some P.cells := (by (repeat (first | assumption | (refine row_at _ _ _ _ ?_; first | rfl | (simp only [World.size_alloc]; done) | (simp only [World.size_alloc]; omega)) | (refine (row_past _ _ _ ?_).trans ?_; (focus (first | exact Nat.lt_succ_self _ | ((repeat rw [World.size_alloc]); omega) | (simp; done) | (simp; omega) | omega))) | rw [row_drewN] | rw [row_drew])); (first | done | fail))
  have s0 : row ((w.alloc (.cells P.cells 24)).alloc (.cells #[.int .u64 A, .int .u64 B] 26)) (w.heap.size + 1) = some #[.int .u64 A, .int .u64 B] := (by (repeat (first | assumption | (refine row_at _ _ _ _ ?_; first | rfl | (simp only [World.size_alloc]; done) | (simp only [World.size_alloc]; omega)) | (refine (row_past _ _ _ ?_).trans ?_; (focus (first | exact Nat.lt_succ_self _ | ((repeat rw [World.size_alloc]); omega) | (simp; done) | (simp; omega) | omega))) | rw [row_drewN] | rw [row_drew])); (first | done | fail))
  have hB0 : Below w.heap.size w ((w.alloc (.cells P.cells 24)).alloc (.cells #[.int .u64 A, .int .u64 B] 26)) := (by (repeat (first | exact Below.refl _ _ | assumption | (refine Below.allocT ?_ _) | refine Below.drew ?_ | refine below_drewN ?_ _ | (refine Below.then ?_ (by assumption)) | (refine Below.setRow ?_ ?_ _; rotate_left; (focus (first | exact Nat.lt_succ_self _ | ((repeat rw [World.size_alloc]); omega) | (simp; done) | (simp; omega) | omega))) | (refine Below.setCell ?_ ?_ _; rotate_left; (focus (first | exact Nat.lt_succ_self _ | ((repeat rw [World.size_alloc]); omega) | (simp; done) | (simp; omega) | omega))) | (refine Below.then' ?_ (by assumption) ?_; rotate_left; (focus (first | exact Nat.lt_succ_self _ | ((repeat rw [World.size_alloc]); omega) | (simp; done) | (simp; omega) | omega))) | fail)); (first | done | fail))
  have HF := Lib.hid (fun W => gfits_any P eff A he hA W)
  have HN := Lib.hid (fun W => gnext_any P eff B he hB W)
  have HP : Hid (fitsV P eff A = true → A ≤ B → eff ≤ nextV P eff B ∧ nextV P eff B ≤ P.maxEff ∧ eff ≤ A + P.down) := Lib.hid fun h hab => by
    have h1 : rightB P = true ∧ fitsB P eff A = true := by simpa [fitsV] using h
    rw [nextV, if_pos h1.1]
    exact next_rises (right_facts h1.1).1 h1.2 hab
  cases hf : fitsV P eff A
  · rw [hf] at HF
    clear hf HP
    go_enter Try.func4, Try.ntmps4
    go_wp2_with fail
    generalize (w.alloc (.cells P.cells 24)).alloc (.cells #[.int .u64 A, .int .u64 B] 26) = W at *
    refine (awake10_any _).mono ?_
    rintro e w1 ⟨rfl, hb1⟩
    have r1 := (row_below hb1 (row_lt r0)).trans r0
    have s1 := (row_below hb1 (row_lt s0)).trans s0
    have hB1 := Below.then hB0 hb1
    have hc1 : ∀ i, w1.cell? ⟨w.heap.size + 1, i, none⟩ = #[Value.int .u64 A, Value.int .u64 B][i]? := fun i => row_cell s1 i
    clear r0 s0 hB0 hb1
    go_wp2_with fail
    refine (HF.out _).mono ?_
    rintro e w2 ⟨rfl, hb2⟩
    go_wp2_with fail
    go_ret
    exact ⟨rfl, Below.then hB1 hb2⟩
  · by_cases hab : B < A
    · rw [hf] at HF
      clear hf HP
      go_enter Try.func4, Try.ntmps4
      go_wp2_with fail
      generalize (w.alloc (.cells P.cells 24)).alloc (.cells #[.int .u64 A, .int .u64 B] 26) = W at *
      refine (awake10_any _).mono ?_
      rintro e w1 ⟨rfl, hb1⟩
      have r1 := (row_below hb1 (row_lt r0)).trans r0
      have s1 := (row_below hb1 (row_lt s0)).trans s0
      have hB1 := Below.then hB0 hb1
      have hc1 : ∀ i, w1.cell? ⟨w.heap.size + 1, i, none⟩ = #[Value.int .u64 A, Value.int .u64 B][i]? := fun i => row_cell s1 i
      clear r0 s0 hB0 hb1
      go_wp2_with fail
      refine (HF.out _).mono ?_
      rintro e w2 ⟨rfl, hb2⟩
      have s2 := (row_below hb2 (row_lt s1)).trans s1
      have hc2 : ∀ i, w2.cell? ⟨w.heap.size + 1, i, none⟩ = #[Value.int .u64 A, Value.int .u64 B][i]? := fun i => row_cell s2 i
      clear hc1
      go_wp2_with fail
      go_ret
      exact ⟨rfl, Below.then hB1 hb2⟩
    · obtain ⟨g1, g2, g3⟩ := HP.out hf (by omega)
      rw [hf] at HF
      clear hf HP
      generalize nextV P eff B = n at *
      by_cases hea : eff ≤ A
      all_goals
        have E : (eff : Int) - (A : Int) ≤ (P.down : Int) := by omega
        go_enter Try.func4, Try.ntmps4
        go_wp2_with fail
        generalize (w.alloc (.cells P.cells 24)).alloc (.cells #[.int .u64 A, .int .u64 B] 26) = W at *
        refine (awake10_any _).mono ?_
        rintro e w1 ⟨rfl, hb1⟩
        have r1 := (row_below hb1 (row_lt r0)).trans r0
        have s1 := (row_below hb1 (row_lt s0)).trans s0
        have hB1 := Below.then hB0 hb1
        have hc1 : ∀ i, w1.cell? ⟨w.heap.size + 1, i, none⟩ = #[Value.int .u64 A, Value.int .u64 B][i]? := fun i => row_cell s1 i
        clear r0 s0 hB0 hb1
        go_wp2_with fail
        refine (HF.out _).mono ?_
        rintro e w2 ⟨rfl, hb2⟩
        have r2 := (row_below hb2 (row_lt r1)).trans r1
        have s2 := (row_below hb2 (row_lt s1)).trans s1
        have hB2 := Below.then hB1 hb2
        have hc2 : ∀ i, w2.cell? ⟨w.heap.size + 1, i, none⟩ = #[Value.int .u64 A, Value.int .u64 B][i]? := fun i => row_cell s2 i
        clear r1 s1 hB1 hb2 hc1
        go_wp2_with fail
        refine (HN.out _).mono ?_
        rintro e w3 ⟨rfl, hb3⟩
        have r3 := (row_below hb3 (row_lt r2)).trans r2
        have s3 := (row_below hb3 (row_lt s2)).trans s2
        have hB3 := Below.then hB2 hb3
        have hc3 : ∀ i, w3.cell? ⟨w.heap.size + 1, i, none⟩ = #[Value.int .u64 A, Value.int .u64 B][i]? := fun i => row_cell s3 i
        have hc4 : ∀ i, w3.cell? ⟨w.heap.size, i, none⟩ = P.cells[i]? := fun i => row_cell r3 i
        clear r2 s2 hB2 hb3 hc2
        go_wp2_with fail
        go_ret
        exact ⟨rfl, hB3⟩
end Go.Proofs.Ytncobbhhjkdllaa
