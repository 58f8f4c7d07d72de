/-
  Layer 19: who fits and starts fits, who fits and ends fits, who is credited fits; nothing is lost.
-/
import Derived.Test.YtkfbnaafpikgfaaMember2
import Derived.Test.YtkfbnaafpikgfaaLaw07a
import Derived.Test.YtkfbnaafpikgfaaFrame
namespace Go.Proofs.Ytkfbnaafpikgfaa
open Go.RowKit
set_option linter.unusedVariables false

theorem trim_of {P : Par} {s r : St} (hr : rightB P = true) (h : stEq (trimV P s) s = true) (h2 : r.score = s.score) (h3 : r.streak = s.streak ∨ r.streak = 0) : stEq (trimV P r) r = true := by
  have hp := (right_scores hr).2.2.2.2.1
  simp only [trimV, hr, if_true, trimS, stEq, Bool.and_eq_true, beq_iff_eq] at h ⊢
  obtain ⟨_, _, a, b⟩ := h
  refine ⟨trivial, trivial, by rw [h2]; exact a, ?_⟩
  rcases h3 with h3 | h3
  · rw [h3]; exact b
  · rw [h3]; omega
theorem fits_facts {P : Par} {m : Mb} (h : fitsM P m = true) : rightB P = true ∧ 0 ≤ m.owner ∧ m.owner < 64 ∧ stEq (trimV P m.s) m.s = true ∧ shapeV P m = true := by
  unfold fitsM at h
  simpa using h
theorem fits_mk {P : Par} {m : Mb} (h1 : rightB P = true) (h2 : 0 ≤ m.owner) (h3 : m.owner < 64) (h4 : stEq (trimV P m.s) m.s = true) (h5 : shapeV P m = true) : fitsM P m = true := by
  unfold fitsM
  simp [h1, h2, h3, h4, h5]
theorem whole_fits {P : Par} {b : Nat} (hr : rightB P = true) (h : P.floor < b) : fitsV P (wholeN P b) b = true ∧ wholeN P b ≤ P.maxEff := by
  have hs := stakes_facts (right_facts hr).1
  obtain ⟨s1, s2, s3, s4, s5, s6, s7, s8, s9, s10, s11⟩ := hs
  have hmod : P.maxEff % P.inc = 0 := by
    by_cases h0 : P.maxEff % P.inc = 0
    · exact h0
    · exact absurd hr (by rw [right_no2 h0]; simp)
  have hx : P.inc ≤ b - b % P.inc := by
    have h1 : b % P.inc < P.inc := Nat.mod_lt _ (by omega)
    have h2 := Nat.div_add_mod b P.inc
    have h3 : 1 ≤ b / P.inc := (Nat.one_le_div_iff (by omega)).2 (by omega)
    have h4 : P.inc * 1 ≤ P.inc * (b / P.inc) := Nat.mul_le_mul_left _ h3
    omega
  have hy : (b - b % P.inc) % P.inc = 0 := Nat.sub_mod_eq_zero_of_mod_eq (by rw [Nat.mod_mod])
  refine ⟨?_, by unfold wholeN; omega⟩
  unfold fitsV fitsB nextN
  have e1 : (wholeN P b) % P.inc = 0 := by unfold wholeN; rcases Nat.le_total (b - b % P.inc) P.maxEff with h | h <;> simp [h, hy, hmod]
  simp only [hr, Bool.true_and, Bool.and_eq_true, decide_eq_true_eq]
  refine ⟨by unfold wholeN; omega, by unfold wholeN; omega, e1, ?_⟩
  split <;> rfl
theorem start_fits {P : Par} {m : Mb} (h : fitsM P m = true) (hs : startB P m = true) : fitsM P (startM P m) = true ∧ (startM P m).s.bal = m.s.bal ∧ countsB (startM P m).status = true ∧ (m.Ok → (startM P m).Ok) := by
  obtain ⟨hr, o1, o2, ht, _⟩ := fits_facts h
  have hx : P.floor < m.s.bal ∧ m.s.bal ≤ P.cap := by
    unfold startB at hs
    simp only [Bool.and_eq_true, decide_eq_true_eq] at hs
    exact ⟨hs.2.2.1, hs.2.2.2⟩
  have hw := whole_fits hr hx.1
  have hm := (stakes_facts (right_facts hr).1).2.2.2.1
  rw [show startM P m = ⟨⟨m.s.bal, wholeN P m.s.bal, m.s.score, 0⟩, m.owner, 2⟩ by simp [startM, hs]]
  refine ⟨fits_mk hr o1 o2 (trim_of hr ht rfl (.inr rfl)) ?_, rfl, rfl, fun ho => ⟨⟨ho.s.bal, by simp only; omega, ho.s.score, by unfold i64ok; simp⟩, ho.owner, by unfold i64ok; simp⟩⟩
  simp [shapeV, countsB, hx.1, hx.2, hw.1]
theorem end_fits {P : Par} {m : Mb} (h : fitsM P m = true) : fitsM P (endM m 4) = true ∧ (m.Ok → (endM m 4).Ok) := by
  obtain ⟨hr, o1, o2, ht, _⟩ := fits_facts h
  exact ⟨fits_mk hr o1 o2 (trim_of hr ht rfl (.inr rfl)) (by simp [shapeV, countsB, endM]), fun ho => ⟨⟨by simp [endM], by simp [endM], ho.s.score, by unfold i64ok; simp [endM]⟩, ho.owner, by unfold i64ok; simp [endM]⟩⟩
theorem shape_le {P : Par} {m : Mb} (h : shapeV P m = true) : m.s.bal ≤ P.cap := by
  unfold shapeV at h
  split at h
  · simp only [Bool.and_eq_true, decide_eq_true_eq] at h; exact h.2.1
  · split at h
    · simp only [Bool.and_eq_true, decide_eq_true_eq] at h; exact h.2.1
    · split at h
      · simp only [Bool.and_eq_true, decide_eq_true_eq] at h; omega
      · simp at h
theorem credit_fits {P : Par} {m : Mb} {a : Nat} (h : fitsM P m = true) : (creM P m a).s.bal ≤ P.cap ∧ creR P m a ≤ a ∧ (creM P m a).s.bal - m.s.bal = a - creR P m a ∧ m.s.bal ≤ (creM P m a).s.bal ∧ (m.Ok → (creM P m a).Ok) ∧
    (countsB m.status = false → (creM P m a).status = 1 → fitsM P (creM P m a) = true) := by
  obtain ⟨hr, o1, o2, ht, hsh⟩ := fits_facts h
  have hle := shape_le hsh
  have hcap := (stakes_facts (right_facts hr).1).2.2.2.2.2.2.2.1
  obtain ⟨g, hg⟩ : ∃ g, g = creG P m a := ⟨_, rfl⟩
  have hg1 : g ≤ a ∧ g ≤ P.cap - m.s.bal := by rw [hg]; unfold creG; omega
  have hR : creR P m a = a - g := by simp [creR, hr, hg]
  have hB : (creM P m a).s.bal = m.s.bal + g := by unfold creM; rw [if_pos hr, ← hg]; split <;> rfl
  refine ⟨by omega, by omega, by omega, by omega, fun ho => ?_, fun hc h1 => ?_⟩
  · have hb : m.s.bal + g < 18446744073709551616 := by omega
    unfold creM
    rw [if_pos hr, ← hg]
    split
    · exact ⟨⟨hb, by simp, ho.s.score, ho.s.streak⟩, ho.owner, by unfold i64ok; simp⟩
    · exact ⟨⟨hb, ho.s.eff, ho.s.score, ho.s.streak⟩, ho.owner, ho.status⟩
  · unfold shapeV at hsh
    rw [hc] at hsh
    simp only [Bool.false_eq_true, if_false] at hsh
    unfold creM at h1 ⊢
    rw [if_pos hr, ← hg] at h1 ⊢
    by_cases hcb : creB P m a = true
    · rw [if_pos hcb] at h1 ⊢
      have h0 : 0 < m.s.bal + g := by
        unfold creB at hcb
        rw [← hg] at hcb
        simp only [Bool.and_eq_true, decide_eq_true_eq] at hcb
        exact hcb.1
      refine fits_mk hr o1 o2 (trim_of hr ht rfl (.inl rfl)) ?_
      simp only [shapeV, countsB]
      simp only [show ¬ ((1 : Int) = 2) by omega, show ¬ ((1 : Int) = 3) by omega, decide_false, Bool.or_self, Bool.false_eq_true, if_false, if_true, Bool.and_eq_true, decide_eq_true_eq, and_true]
      omega
    · rw [if_neg hcb] at h1 ⊢
      simp only at h1
      refine fits_mk hr o1 o2 (trim_of hr ht rfl (.inl rfl)) ?_
      rw [if_pos h1] at hsh
      simp only [Bool.and_eq_true, decide_eq_true_eq] at hsh
      simp only [shapeV, h1, countsB]
      simp only [show ¬ ((1 : Int) = 2) by omega, show ¬ ((1 : Int) = 3) by omega, decide_false, Bool.or_self, Bool.false_eq_true, if_false, if_true, Bool.and_eq_true, decide_eq_true_eq]
      omega
set_option maxRecDepth 100000 in
set_option maxHeartbeats 4000000 in
theorem awake19_any (w : World) : Calls Try.prog 30 #[] w fun e w' => e = .returned (.bool true) ∧ Below w.heap.size w w' := by
  have HSt := Lib.hid (fun W => mstart_any simpleP ⟨⟨27, 0, 0, 0⟩, 0, 1⟩ ⟨⟨by simp, by simp, by simp, by unfold i64ok; simp⟩, by unfold i64ok; simp, by unfold i64ok; simp⟩ W)
  have HCr := Lib.hid (fun W => mcredit_any simpleP ⟨⟨30, 30, 0, 0⟩, 0, 2⟩ 20 ⟨⟨by simp, by simp, by simp, by unfold i64ok; simp⟩, by unfold i64ok; simp, by unfold i64ok; simp⟩ (by omega) W)
  have hS : startB simpleP ⟨⟨27, 0, 0, 0⟩, 0, 1⟩ = true := by unfold startB; rw [right_simple]; decide
  rw [show startM simpleP ⟨⟨27, 0, 0, 0⟩, 0, 1⟩ = ⟨⟨27, 20, 0, 0⟩, 0, 2⟩ by unfold startM; rw [if_pos hS]; congr 2, hS] at HSt
  rw [show creM simpleP ⟨⟨30, 30, 0, 0⟩, 0, 2⟩ 20 = ⟨⟨40, 30, 0, 0⟩, 0, 2⟩ by unfold creM; rw [if_pos right_simple, if_neg (by decide)]; congr 2, show creR simpleP ⟨⟨30, 30, 0, 0⟩, 0, 2⟩ 20 = 10 by unfold creR; rw [if_pos right_simple]; decide] at HCr
  clear hS
  go_enter Try.func30, Try.ntmps30
  go_wp2_with fail
  refine (simple_any _).mono ?_
  rintro e w1 ⟨rfl, hb1⟩
  have r1 : row (w1.alloc (.cells simpleP.cells 24)) w1.heap.size = some simpleP.cells := row_at _ _ _ _ rfl
  have B1 := Lib.hid (hb1.alloc hb1.size (.cells simpleP.cells 24))
  clear hb1
  go_wp2_with fail
  generalize w1.alloc (.cells simpleP.cells 24) = w2 at *
  go_wp2_with (first | (refine wpList_build_to #[.int .u64 27, .int .u64 0, .int .u64 0, .int .i64 0] rfl 48 _ rfl rfl ?_) | (refine wpList_build_to #[.int .u64 27, .int .u64 0, .int .u64 0, .int .i64 0, .int .i64 0, .int .i64 1] rfl 67 _ rfl rfl ?_))
  refine (HSt.out _).mono ?_
  rintro e w3 ⟨rfl, hb3⟩
  have r3 := (row_below hb3 (row_lt r1)).trans r1
  have l3 := row_lt r3
  have B3 := Below.then B1.out hb3
  have r4 := (row_past w3 (.cells (Mb.cells ⟨⟨27, 20, 0, 0⟩, 0, 2⟩) 67) _ l3).trans r3
  have x4 := row_at w3 (Mb.cells ⟨⟨27, 20, 0, 0⟩, 0, 2⟩) 67 _ rfl
  have B4 := Lib.hid (Below.allocT B3 (.cells (Mb.cells ⟨⟨27, 20, 0, 0⟩, 0, 2⟩) 67))
  clear r1 B1 hb3
  go_wp2_with fail
  clear r3 l3 B3
  generalize w3.alloc (.cells (Mb.cells ⟨⟨27, 20, 0, 0⟩, 0, 2⟩) 67) = w4 at *
  go_wp2_with (first | (refine wpList_build_to #[.int .u64 30, .int .u64 30, .int .u64 0, .int .i64 0] rfl 48 _ rfl rfl ?_) | (refine wpList_build_to #[.int .u64 30, .int .u64 30, .int .u64 0, .int .i64 0, .int .i64 0, .int .i64 2] rfl 67 _ rfl rfl ?_))
  refine (HCr.out _).mono ?_
  rintro e w5 ⟨rfl, hb5⟩
  have x5 := (row_below hb5 (row_lt x4)).trans x4
  have l5 := row_lt x5
  have B5 := Below.then B4.out hb5
  have x6 := (row_past w5 (.cells (Mb.cells ⟨⟨40, 30, 0, 0⟩, 0, 2⟩) 67) _ l5).trans x5
  have y6 := row_at w5 (Mb.cells ⟨⟨40, 30, 0, 0⟩, 0, 2⟩) 67 _ rfl
  have B6 := Lib.hid (Below.allocT B5 (.cells (Mb.cells ⟨⟨40, 30, 0, 0⟩, 0, 2⟩) 67))
  have cx := fun i => row_cell x6 i
  have cy := fun i => row_cell y6 i
  clear x4 r4 B4 hb5
  go_wp2_with fail
  go_ret
  exact ⟨rfl, B6.out⟩
set_option maxRecDepth 100000 in
set_option maxHeartbeats 8000000 in
theorem memberFits_any (P : Par) (m : Mb) (a : Nat) (hm : m.Ok) (ha : a < 18446744073709551616) (w : World) : Calls Try.prog 11 #[.agg P.cells, .agg m.cells, .int .u64 a] w fun e w' => e = .returned (.bool true) ∧ Below w.heap.size w w' := by
  have r0 : row ((w.alloc (.cells P.cells 24)).alloc (.cells m.cells 67)) w.heap.size = some P.cells := (by (repeat (first | assumption | (refine row_at _ _ _ _ ?_; first | rfl | (simp only [World.size_alloc]; done) | (simp only [World.size_alloc]; omega)) | (refine (row_past _ _ _ ?_).trans ?_; (focus (first | exact Nat.lt_succ_self _ | ((repeat rw [World.size_alloc]); omega) | (simp; done) | (simp; omega) | omega))) | rw [row_drewN] | rw [row_drew])); (first | done | fail))
  have s0 : row ((w.alloc (.cells P.cells 24)).alloc (.cells m.cells 67)) (w.heap.size + 1) = some m.cells := (by (repeat (first | assumption | (refine row_at _ _ _ _ ?_; first | rfl | (simp only [World.size_alloc]; done) | (simp only [World.size_alloc]; omega)) | (refine (row_past _ _ _ ?_).trans ?_; (focus (first | exact Nat.lt_succ_self _ | ((repeat rw [World.size_alloc]); omega) | (simp; done) | (simp; omega) | omega))) | rw [row_drewN] | rw [row_drew])); (first | done | fail))
  have hB0 : Below w.heap.size w ((w.alloc (.cells P.cells 24)).alloc (.cells m.cells 67)) := (by (repeat (first | exact Below.refl _ _ | assumption | (refine Below.allocT ?_ _) | refine Below.drew ?_ | refine below_drewN ?_ _ | (refine Below.then ?_ (by assumption)) | (refine Below.setRow ?_ ?_ _; rotate_left; (focus (first | exact Nat.lt_succ_self _ | ((repeat rw [World.size_alloc]); omega) | (simp; done) | (simp; omega) | omega))) | (refine Below.setCell ?_ ?_ _; rotate_left; (focus (first | exact Nat.lt_succ_self _ | ((repeat rw [World.size_alloc]); omega) | (simp; done) | (simp; omega) | omega))) | (refine Below.then' ?_ (by assumption) ?_; rotate_left; (focus (first | exact Nat.lt_succ_self _ | ((repeat rw [World.size_alloc]); omega) | (simp; done) | (simp; omega) | omega))) | fail)); (first | done | fail))
  have HR := Lib.hid (fun W => right_any P W)
  have HFm := Lib.hid (fun W => mfits_any P m hm W)
  cases hr : rightB P
  · rw [hr] at HR
    clear hr HFm hm
    go_enter Try.func11, Try.ntmps11
    go_wp2_with fail
    generalize (w.alloc (.cells P.cells 24)).alloc (.cells m.cells 67) = w0 at *
    refine (awake19_any _).mono ?_
    rintro e w1 ⟨rfl, hb1⟩
    have r1 := (row_below hb1 (row_lt r0)).trans r0
    have s1 := (row_below hb1 (row_lt s0)).trans s0
    have hB1 := Below.then hB0 hb1
    clear r0 s0 hB0 hb1
    go_wp2_with fail
    refine (plain_any P _).mono ?_
    rintro e w2 ⟨rfl, hb2⟩
    have r2 := (row_below hb2 (row_lt r1)).trans r1
    have s2 := (row_below hb2 (row_lt s1)).trans s1
    have hB2 := Below.then hB1 hb2
    clear r1 s1 hB1 hb2
    go_wp2_with fail
    refine (HR.out _).mono ?_
    rintro e w3 ⟨rfl, hb3⟩
    have r3 := (row_below hb3 (row_lt r2)).trans r2
    have s3 := (row_below hb3 (row_lt s2)).trans s2
    have hB3 := Below.then hB2 hb3
    clear r2 s2 hB2 hb3
    go_wp2_with fail
    go_ret
    exact ⟨rfl, hB3⟩
  · rw [hr] at HR
    cases hf : fitsM P m
    · rw [hf] at HFm
      clear hr hm hf
      go_enter Try.func11, Try.ntmps11
      go_wp2_with fail
      generalize (w.alloc (.cells P.cells 24)).alloc (.cells m.cells 67) = w0 at *
      refine (awake19_any _).mono ?_
      rintro e w1 ⟨rfl, hb1⟩
      have r1 := (row_below hb1 (row_lt r0)).trans r0
      have s1 := (row_below hb1 (row_lt s0)).trans s0
      have hB1 := Below.then hB0 hb1
      clear r0 s0 hB0 hb1
      go_wp2_with fail
      refine (plain_any P _).mono ?_
      rintro e w2 ⟨rfl, hb2⟩
      have r2 := (row_below hb2 (row_lt r1)).trans r1
      have s2 := (row_below hb2 (row_lt s1)).trans s1
      have hB2 := Below.then hB1 hb2
      clear r1 s1 hB1 hb2
      go_wp2_with fail
      refine (HR.out _).mono ?_
      rintro e w3 ⟨rfl, hb3⟩
      have r3 := (row_below hb3 (row_lt r2)).trans r2
      have s3 := (row_below hb3 (row_lt s2)).trans s2
      have hB3 := Below.then hB2 hb3
      clear r2 s2 hB2 hb3
      go_wp2_with fail
      refine (HFm.out _).mono ?_
      rintro e w4 ⟨rfl, hb4⟩
      have r4 := (row_below hb4 (row_lt r3)).trans r3
      have s4 := (row_below hb4 (row_lt s3)).trans s3
      have hB4 := Below.then hB3 hb4
      clear r3 s3 hB3 hb4
      go_wp2_with fail
      go_ret
      exact ⟨rfl, hB4⟩
    · rw [hf] at HFm
      have HSt := Lib.hid (fun W => mstart_any P m hm W)
      have HEn := Lib.hid (fun W => mend_any m 4 W)
      have HCr := Lib.hid (fun W => mcredit_any P m a hm ha W)
      have HCm := Lib.hid (fun W => counts_any m W)
      obtain ⟨c1, c2, c3, c4, c5, c6⟩ := credit_fits (a := a) hf
      obtain ⟨e1, e2⟩ := end_fits hf
      have HFB := Lib.hid (fun W => mfits_any P (endM m 4) (e2 hm) W)
      rw [e1] at HFB
      have HFC := Lib.hid (fun W => mfits_any P (creM P m a) (c5 hm) W)
      have hcb : (creM P m a).s.bal < 18446744073709551616 := (c5 hm).s.bal
      have HA : startB P m = false ∨ (startB P m = true ∧ (startM P m).s.bal = m.s.bal ∧ Hid (∀ W, Calls Try.prog 34 #[.agg P.cells, .agg (startM P m).cells] W fun e w' => e = .returned (.bool true) ∧ Below W.heap.size W w') ∧ Hid (∀ W, Calls Try.prog 38 #[.agg (startM P m).cells] W fun e w' => e = .returned (.bool true) ∧ Below W.heap.size W w')) := by
        cases hs : startB P m
        · exact .inl rfl
        · obtain ⟨f1, f2, f3, f4⟩ := start_fits hf hs
          refine .inr ⟨rfl, f2, Lib.hid fun W => ?_, Lib.hid fun W => ?_⟩
          · rw [← f1]; exact mfits_any P _ (f4 hm) W
          · rw [← f3]; exact counts_any _ W
      have HX : (countsB m.status = true) ∨ (countsB m.status = false ∧ ((creM P m a).status != 1) = true) ∨ (countsB m.status = false ∧ ((creM P m a).status != 1) = false ∧ fitsM P (creM P m a) = true) := by
        cases hc : countsB m.status
        · by_cases h1 : (creM P m a).status = 1
          · exact .inr (.inr ⟨rfl, by rw [h1]; rfl, c6 hc h1⟩)
          · exact .inr (.inl ⟨rfl, bne_iff_ne.2 h1⟩)
        · exact .inl rfl
      clear c5 c6 e1 e2 hf hr
      generalize countsB m.status = cm at *
      generalize startM P m = X at *
      generalize startB P m = ok at *
      generalize endM m 4 = Y at *
      generalize fitsM P (creM P m a) = fc at *
      generalize creM P m a = Z at *
      generalize creR P m a = rest at *
      obtain ⟨g, hg⟩ : ∃ g, g = a - rest := ⟨_, rfl⟩
      have mb := hm.s.bal
      have E1 : IntKind.u64.wrap ((Z.s.bal : Int) - (m.s.bal : Int)) = (g : Int) := by rw [show (Z.s.bal : Int) - (m.s.bal : Int) = ((g : Nat) : Int) by omega]; exact Bits.wrapN _ (by omega)
      have E2 : IntKind.u64.wrap ((a : Int) - (rest : Int)) = (g : Int) := by rw [show (a : Int) - (rest : Int) = ((g : Nat) : Int) by omega]; exact Bits.wrapN _ (by omega)
      have n1 : ¬ a < rest := by omega
      have n2 : ¬ P.cap < Z.s.bal := by omega
      clear c1 c2 c3 c4 hg hm ha mb hcb
      rcases HA with rfl | ⟨rfl, hXb, HFX, HCX⟩
      · rcases HX with rfl | ⟨rfl, k1⟩ | ⟨rfl, k1, rfl⟩
        · go_enter Try.func11, Try.ntmps11
          go_wp2_with fail
          generalize (w.alloc (.cells P.cells 24)).alloc (.cells m.cells 67) = w0 at *
          refine (awake19_any _).mono ?_
          rintro e w1 ⟨rfl, hb1⟩
          have r1 := (row_below hb1 (row_lt r0)).trans r0
          have s1 := (row_below hb1 (row_lt s0)).trans s0
          have hB1 := Below.then hB0 hb1
          clear r0 s0 hB0 hb1
          go_wp2_with fail
          refine (plain_any P _).mono ?_
          rintro e w2 ⟨rfl, hb2⟩
          have r2 := (row_below hb2 (row_lt r1)).trans r1
          have s2 := (row_below hb2 (row_lt s1)).trans s1
          have hB2 := Below.then hB1 hb2
          clear r1 s1 hB1 hb2
          go_wp2_with fail
          refine (HR.out _).mono ?_
          rintro e w3 ⟨rfl, hb3⟩
          have r3 := (row_below hb3 (row_lt r2)).trans r2
          have s3 := (row_below hb3 (row_lt s2)).trans s2
          have hB3 := Below.then hB2 hb3
          clear r2 s2 hB2 hb3
          go_wp2_with fail
          refine (HFm.out _).mono ?_
          rintro e w4 ⟨rfl, hb4⟩
          have r4 := (row_below hb4 (row_lt r3)).trans r3
          have s4 := (row_below hb4 (row_lt s3)).trans s3
          have hB4 := Below.then hB3 hb4
          clear r3 s3 hB3 hb4
          go_wp2_with fail
          refine (HSt.out _).mono ?_
          rintro e w5 ⟨rfl, hb5⟩
          have r5 := (row_below hb5 (row_lt r4)).trans r4
          have s5 := (row_below hb5 (row_lt s4)).trans s4
          have hB5 := Below.then hB4 hb5
          clear r4 s4 hB4 hb5
          have r6 := (row_past w5 (.cells X.cells 67) _ (row_lt r5)).trans r5
          have s6 := (row_past w5 (.cells X.cells 67) _ (row_lt s5)).trans s5
          have x6 := row_at w5 X.cells 67 _ rfl
          have hB6 := Below.allocT hB5 (.cells X.cells 67)
          have lr5 := row_lt r5
          have ls5 := row_lt s5
          have gr6 := lr5
          have gs6 := ls5
          go_wp2_with fail
          clear r5 lr5 s5 ls5 hB5
          generalize w5.alloc (.cells X.cells 67) = w6 at *
          refine (HEn.out _).mono ?_
          rintro e w7 ⟨rfl, hb7⟩
          have r7 := (row_below hb7 (row_lt r6)).trans r6
          have s7 := (row_below hb7 (row_lt s6)).trans s6
          have x7 := (row_below hb7 (row_lt x6)).trans x6
          have hB7 := Below.then hB6 hb7
          clear r6 s6 x6 hB6 hb7
          have r8 := (row_past w7 (.cells Y.cells 67) _ (row_lt r7)).trans r7
          have s8 := (row_past w7 (.cells Y.cells 67) _ (row_lt s7)).trans s7
          have x8 := (row_past w7 (.cells Y.cells 67) _ (row_lt x7)).trans x7
          have y8 := row_at w7 Y.cells 67 _ rfl
          have hB8 := Below.allocT hB7 (.cells Y.cells 67)
          have lr7 := row_lt r7
          have ls7 := row_lt s7
          have lx7 := row_lt x7
          have gr8 := lr7
          have gs8 := ls7
          have gx8 := lx7
          go_wp2_with fail
          clear r7 lr7 s7 ls7 x7 lx7 hB7
          generalize w7.alloc (.cells Y.cells 67) = w8 at *
          refine (HCr.out _).mono ?_
          rintro e w9 ⟨rfl, hb9⟩
          have r9 := (row_below hb9 (row_lt r8)).trans r8
          have s9 := (row_below hb9 (row_lt s8)).trans s8
          have x9 := (row_below hb9 (row_lt x8)).trans x8
          have y9 := (row_below hb9 (row_lt y8)).trans y8
          have hB9 := Below.then hB8 hb9
          clear r8 s8 x8 y8 hB8 hb9
          have r10 := (row_past w9 (.cells Z.cells 67) _ (row_lt r9)).trans r9
          have s10 := (row_past w9 (.cells Z.cells 67) _ (row_lt s9)).trans s9
          have x10 := (row_past w9 (.cells Z.cells 67) _ (row_lt x9)).trans x9
          have y10 := (row_past w9 (.cells Z.cells 67) _ (row_lt y9)).trans y9
          have z10 := row_at w9 Z.cells 67 _ rfl
          have hB10 := Below.allocT hB9 (.cells Z.cells 67)
          have lr9 := row_lt r9
          have ls9 := row_lt s9
          have lx9 := row_lt x9
          have ly9 := row_lt y9
          have gr10 := lr9
          have gs10 := ls9
          have gx10 := lx9
          have gy10 := ly9
          go_wp2_with fail
          clear r9 lr9 s9 ls9 x9 lx9 y9 ly9 hB9
          generalize w9.alloc (.cells Z.cells 67) = w10 at *
          refine (HFB.out _).mono ?_
          rintro e w11 ⟨rfl, hb11⟩
          have r11 := (row_below hb11 (row_lt r10)).trans r10
          have s11 := (row_below hb11 (row_lt s10)).trans s10
          have x11 := (row_below hb11 (row_lt x10)).trans x10
          have y11 := (row_below hb11 (row_lt y10)).trans y10
          have z11 := (row_below hb11 (row_lt z10)).trans z10
          have hB11 := Below.then hB10 hb11
          clear r10 s10 x10 y10 z10 hB10 hb11
          have cr11 := fun i => row_cell r11 i
          have lr11 := row_lt r11
          have cs11 := fun i => row_cell s11 i
          have ls11 := row_lt s11
          have cz11 := fun i => row_cell z11 i
          have lz11 := row_lt z11
          go_wp2_with fail
          refine (HCm.out _).mono ?_
          rintro e w12 ⟨rfl, hb12⟩
          have r12 := (row_below hb12 (row_lt r11)).trans r11
          have s12 := (row_below hb12 (row_lt s11)).trans s11
          have x12 := (row_below hb12 (row_lt x11)).trans x11
          have y12 := (row_below hb12 (row_lt y11)).trans y11
          have z12 := (row_below hb12 (row_lt z11)).trans z11
          have hB12 := Below.then hB11 hb12
          clear r11 s11 x11 y11 z11 cr11 cs11 cz11 lr11 ls11 lz11 hB11 hb12
          have cr12 := fun i => row_cell r12 i
          have lr12 := row_lt r12
          have cs12 := fun i => row_cell s12 i
          have ls12 := row_lt s12
          have cz12 := fun i => row_cell z12 i
          have lz12 := row_lt z12
          go_wp2_with fail
          go_ret
          exact ⟨rfl, hB12⟩
        · go_enter Try.func11, Try.ntmps11
          go_wp2_with fail
          generalize (w.alloc (.cells P.cells 24)).alloc (.cells m.cells 67) = w0 at *
          refine (awake19_any _).mono ?_
          rintro e w1 ⟨rfl, hb1⟩
          have r1 := (row_below hb1 (row_lt r0)).trans r0
          have s1 := (row_below hb1 (row_lt s0)).trans s0
          have hB1 := Below.then hB0 hb1
          clear r0 s0 hB0 hb1
          go_wp2_with fail
          refine (plain_any P _).mono ?_
          rintro e w2 ⟨rfl, hb2⟩
          have r2 := (row_below hb2 (row_lt r1)).trans r1
          have s2 := (row_below hb2 (row_lt s1)).trans s1
          have hB2 := Below.then hB1 hb2
          clear r1 s1 hB1 hb2
          go_wp2_with fail
          refine (HR.out _).mono ?_
          rintro e w3 ⟨rfl, hb3⟩
          have r3 := (row_below hb3 (row_lt r2)).trans r2
          have s3 := (row_below hb3 (row_lt s2)).trans s2
          have hB3 := Below.then hB2 hb3
          clear r2 s2 hB2 hb3
          go_wp2_with fail
          refine (HFm.out _).mono ?_
          rintro e w4 ⟨rfl, hb4⟩
          have r4 := (row_below hb4 (row_lt r3)).trans r3
          have s4 := (row_below hb4 (row_lt s3)).trans s3
          have hB4 := Below.then hB3 hb4
          clear r3 s3 hB3 hb4
          go_wp2_with fail
          refine (HSt.out _).mono ?_
          rintro e w5 ⟨rfl, hb5⟩
          have r5 := (row_below hb5 (row_lt r4)).trans r4
          have s5 := (row_below hb5 (row_lt s4)).trans s4
          have hB5 := Below.then hB4 hb5
          clear r4 s4 hB4 hb5
          have r6 := (row_past w5 (.cells X.cells 67) _ (row_lt r5)).trans r5
          have s6 := (row_past w5 (.cells X.cells 67) _ (row_lt s5)).trans s5
          have x6 := row_at w5 X.cells 67 _ rfl
          have hB6 := Below.allocT hB5 (.cells X.cells 67)
          have lr5 := row_lt r5
          have ls5 := row_lt s5
          have gr6 := lr5
          have gs6 := ls5
          go_wp2_with fail
          clear r5 lr5 s5 ls5 hB5
          generalize w5.alloc (.cells X.cells 67) = w6 at *
          refine (HEn.out _).mono ?_
          rintro e w7 ⟨rfl, hb7⟩
          have r7 := (row_below hb7 (row_lt r6)).trans r6
          have s7 := (row_below hb7 (row_lt s6)).trans s6
          have x7 := (row_below hb7 (row_lt x6)).trans x6
          have hB7 := Below.then hB6 hb7
          clear r6 s6 x6 hB6 hb7
          have r8 := (row_past w7 (.cells Y.cells 67) _ (row_lt r7)).trans r7
          have s8 := (row_past w7 (.cells Y.cells 67) _ (row_lt s7)).trans s7
          have x8 := (row_past w7 (.cells Y.cells 67) _ (row_lt x7)).trans x7
          have y8 := row_at w7 Y.cells 67 _ rfl
          have hB8 := Below.allocT hB7 (.cells Y.cells 67)
          have lr7 := row_lt r7
          have ls7 := row_lt s7
          have lx7 := row_lt x7
          have gr8 := lr7
          have gs8 := ls7
          have gx8 := lx7
          go_wp2_with fail
          clear r7 lr7 s7 ls7 x7 lx7 hB7
          generalize w7.alloc (.cells Y.cells 67) = w8 at *
          refine (HCr.out _).mono ?_
          rintro e w9 ⟨rfl, hb9⟩
          have r9 := (row_below hb9 (row_lt r8)).trans r8
          have s9 := (row_below hb9 (row_lt s8)).trans s8
          have x9 := (row_below hb9 (row_lt x8)).trans x8
          have y9 := (row_below hb9 (row_lt y8)).trans y8
          have hB9 := Below.then hB8 hb9
          clear r8 s8 x8 y8 hB8 hb9
          have r10 := (row_past w9 (.cells Z.cells 67) _ (row_lt r9)).trans r9
          have s10 := (row_past w9 (.cells Z.cells 67) _ (row_lt s9)).trans s9
          have x10 := (row_past w9 (.cells Z.cells 67) _ (row_lt x9)).trans x9
          have y10 := (row_past w9 (.cells Z.cells 67) _ (row_lt y9)).trans y9
          have z10 := row_at w9 Z.cells 67 _ rfl
          have hB10 := Below.allocT hB9 (.cells Z.cells 67)
          have lr9 := row_lt r9
          have ls9 := row_lt s9
          have lx9 := row_lt x9
          have ly9 := row_lt y9
          have gr10 := lr9
          have gs10 := ls9
          have gx10 := lx9
          have gy10 := ly9
          go_wp2_with fail
          clear r9 lr9 s9 ls9 x9 lx9 y9 ly9 hB9
          generalize w9.alloc (.cells Z.cells 67) = w10 at *
          refine (HFB.out _).mono ?_
          rintro e w11 ⟨rfl, hb11⟩
          have r11 := (row_below hb11 (row_lt r10)).trans r10
          have s11 := (row_below hb11 (row_lt s10)).trans s10
          have x11 := (row_below hb11 (row_lt x10)).trans x10
          have y11 := (row_below hb11 (row_lt y10)).trans y10
          have z11 := (row_below hb11 (row_lt z10)).trans z10
          have hB11 := Below.then hB10 hb11
          clear r10 s10 x10 y10 z10 hB10 hb11
          have cr11 := fun i => row_cell r11 i
          have lr11 := row_lt r11
          have cs11 := fun i => row_cell s11 i
          have ls11 := row_lt s11
          have cz11 := fun i => row_cell z11 i
          have lz11 := row_lt z11
          go_wp2_with fail
          refine (HCm.out _).mono ?_
          rintro e w12 ⟨rfl, hb12⟩
          have r12 := (row_below hb12 (row_lt r11)).trans r11
          have s12 := (row_below hb12 (row_lt s11)).trans s11
          have x12 := (row_below hb12 (row_lt x11)).trans x11
          have y12 := (row_below hb12 (row_lt y11)).trans y11
          have z12 := (row_below hb12 (row_lt z11)).trans z11
          have hB12 := Below.then hB11 hb12
          clear r11 s11 x11 y11 z11 cr11 cs11 cz11 lr11 ls11 lz11 hB11 hb12
          have cr12 := fun i => row_cell r12 i
          have lr12 := row_lt r12
          have cs12 := fun i => row_cell s12 i
          have ls12 := row_lt s12
          have cz12 := fun i => row_cell z12 i
          have lz12 := row_lt z12
          go_wp2_with fail
          go_ret
          exact ⟨rfl, hB12⟩
        · go_enter Try.func11, Try.ntmps11
          go_wp2_with fail
          generalize (w.alloc (.cells P.cells 24)).alloc (.cells m.cells 67) = w0 at *
          refine (awake19_any _).mono ?_
          rintro e w1 ⟨rfl, hb1⟩
          have r1 := (row_below hb1 (row_lt r0)).trans r0
          have s1 := (row_below hb1 (row_lt s0)).trans s0
          have hB1 := Below.then hB0 hb1
          clear r0 s0 hB0 hb1
          go_wp2_with fail
          refine (plain_any P _).mono ?_
          rintro e w2 ⟨rfl, hb2⟩
          have r2 := (row_below hb2 (row_lt r1)).trans r1
          have s2 := (row_below hb2 (row_lt s1)).trans s1
          have hB2 := Below.then hB1 hb2
          clear r1 s1 hB1 hb2
          go_wp2_with fail
          refine (HR.out _).mono ?_
          rintro e w3 ⟨rfl, hb3⟩
          have r3 := (row_below hb3 (row_lt r2)).trans r2
          have s3 := (row_below hb3 (row_lt s2)).trans s2
          have hB3 := Below.then hB2 hb3
          clear r2 s2 hB2 hb3
          go_wp2_with fail
          refine (HFm.out _).mono ?_
          rintro e w4 ⟨rfl, hb4⟩
          have r4 := (row_below hb4 (row_lt r3)).trans r3
          have s4 := (row_below hb4 (row_lt s3)).trans s3
          have hB4 := Below.then hB3 hb4
          clear r3 s3 hB3 hb4
          go_wp2_with fail
          refine (HSt.out _).mono ?_
          rintro e w5 ⟨rfl, hb5⟩
          have r5 := (row_below hb5 (row_lt r4)).trans r4
          have s5 := (row_below hb5 (row_lt s4)).trans s4
          have hB5 := Below.then hB4 hb5
          clear r4 s4 hB4 hb5
          have r6 := (row_past w5 (.cells X.cells 67) _ (row_lt r5)).trans r5
          have s6 := (row_past w5 (.cells X.cells 67) _ (row_lt s5)).trans s5
          have x6 := row_at w5 X.cells 67 _ rfl
          have hB6 := Below.allocT hB5 (.cells X.cells 67)
          have lr5 := row_lt r5
          have ls5 := row_lt s5
          have gr6 := lr5
          have gs6 := ls5
          go_wp2_with fail
          clear r5 lr5 s5 ls5 hB5
          generalize w5.alloc (.cells X.cells 67) = w6 at *
          refine (HEn.out _).mono ?_
          rintro e w7 ⟨rfl, hb7⟩
          have r7 := (row_below hb7 (row_lt r6)).trans r6
          have s7 := (row_below hb7 (row_lt s6)).trans s6
          have x7 := (row_below hb7 (row_lt x6)).trans x6
          have hB7 := Below.then hB6 hb7
          clear r6 s6 x6 hB6 hb7
          have r8 := (row_past w7 (.cells Y.cells 67) _ (row_lt r7)).trans r7
          have s8 := (row_past w7 (.cells Y.cells 67) _ (row_lt s7)).trans s7
          have x8 := (row_past w7 (.cells Y.cells 67) _ (row_lt x7)).trans x7
          have y8 := row_at w7 Y.cells 67 _ rfl
          have hB8 := Below.allocT hB7 (.cells Y.cells 67)
          have lr7 := row_lt r7
          have ls7 := row_lt s7
          have lx7 := row_lt x7
          have gr8 := lr7
          have gs8 := ls7
          have gx8 := lx7
          go_wp2_with fail
          clear r7 lr7 s7 ls7 x7 lx7 hB7
          generalize w7.alloc (.cells Y.cells 67) = w8 at *
          refine (HCr.out _).mono ?_
          rintro e w9 ⟨rfl, hb9⟩
          have r9 := (row_below hb9 (row_lt r8)).trans r8
          have s9 := (row_below hb9 (row_lt s8)).trans s8
          have x9 := (row_below hb9 (row_lt x8)).trans x8
          have y9 := (row_below hb9 (row_lt y8)).trans y8
          have hB9 := Below.then hB8 hb9
          clear r8 s8 x8 y8 hB8 hb9
          have r10 := (row_past w9 (.cells Z.cells 67) _ (row_lt r9)).trans r9
          have s10 := (row_past w9 (.cells Z.cells 67) _ (row_lt s9)).trans s9
          have x10 := (row_past w9 (.cells Z.cells 67) _ (row_lt x9)).trans x9
          have y10 := (row_past w9 (.cells Z.cells 67) _ (row_lt y9)).trans y9
          have z10 := row_at w9 Z.cells 67 _ rfl
          have hB10 := Below.allocT hB9 (.cells Z.cells 67)
          have lr9 := row_lt r9
          have ls9 := row_lt s9
          have lx9 := row_lt x9
          have ly9 := row_lt y9
          have gr10 := lr9
          have gs10 := ls9
          have gx10 := lx9
          have gy10 := ly9
          go_wp2_with fail
          clear r9 lr9 s9 ls9 x9 lx9 y9 ly9 hB9
          generalize w9.alloc (.cells Z.cells 67) = w10 at *
          refine (HFB.out _).mono ?_
          rintro e w11 ⟨rfl, hb11⟩
          have r11 := (row_below hb11 (row_lt r10)).trans r10
          have s11 := (row_below hb11 (row_lt s10)).trans s10
          have x11 := (row_below hb11 (row_lt x10)).trans x10
          have y11 := (row_below hb11 (row_lt y10)).trans y10
          have z11 := (row_below hb11 (row_lt z10)).trans z10
          have hB11 := Below.then hB10 hb11
          clear r10 s10 x10 y10 z10 hB10 hb11
          have cr11 := fun i => row_cell r11 i
          have lr11 := row_lt r11
          have cs11 := fun i => row_cell s11 i
          have ls11 := row_lt s11
          have cz11 := fun i => row_cell z11 i
          have lz11 := row_lt z11
          go_wp2_with fail
          refine (HCm.out _).mono ?_
          rintro e w12 ⟨rfl, hb12⟩
          have r12 := (row_below hb12 (row_lt r11)).trans r11
          have s12 := (row_below hb12 (row_lt s11)).trans s11
          have x12 := (row_below hb12 (row_lt x11)).trans x11
          have y12 := (row_below hb12 (row_lt y11)).trans y11
          have z12 := (row_below hb12 (row_lt z11)).trans z11
          have hB12 := Below.then hB11 hb12
          clear r11 s11 x11 y11 z11 cr11 cs11 cz11 lr11 ls11 lz11 hB11 hb12
          have cr12 := fun i => row_cell r12 i
          have lr12 := row_lt r12
          have cs12 := fun i => row_cell s12 i
          have ls12 := row_lt s12
          have cz12 := fun i => row_cell z12 i
          have lz12 := row_lt z12
          go_wp2_with fail
          refine (HFC.out _).mono ?_
          rintro e w13 ⟨rfl, hb13⟩
          have r13 := (row_below hb13 (row_lt r12)).trans r12
          have s13 := (row_below hb13 (row_lt s12)).trans s12
          have x13 := (row_below hb13 (row_lt x12)).trans x12
          have y13 := (row_below hb13 (row_lt y12)).trans y12
          have z13 := (row_below hb13 (row_lt z12)).trans z12
          have hB13 := Below.then hB12 hb13
          clear r12 s12 x12 y12 z12 cr12 cs12 cz12 lr12 ls12 lz12 hB12 hb13
          go_wp2_with fail
          go_ret
          exact ⟨rfl, hB13⟩
      · rcases HX with rfl | ⟨rfl, k1⟩ | ⟨rfl, k1, rfl⟩
        · go_enter Try.func11, Try.ntmps11
          go_wp2_with fail
          generalize (w.alloc (.cells P.cells 24)).alloc (.cells m.cells 67) = w0 at *
          refine (awake19_any _).mono ?_
          rintro e w1 ⟨rfl, hb1⟩
          have r1 := (row_below hb1 (row_lt r0)).trans r0
          have s1 := (row_below hb1 (row_lt s0)).trans s0
          have hB1 := Below.then hB0 hb1
          clear r0 s0 hB0 hb1
          go_wp2_with fail
          refine (plain_any P _).mono ?_
          rintro e w2 ⟨rfl, hb2⟩
          have r2 := (row_below hb2 (row_lt r1)).trans r1
          have s2 := (row_below hb2 (row_lt s1)).trans s1
          have hB2 := Below.then hB1 hb2
          clear r1 s1 hB1 hb2
          go_wp2_with fail
          refine (HR.out _).mono ?_
          rintro e w3 ⟨rfl, hb3⟩
          have r3 := (row_below hb3 (row_lt r2)).trans r2
          have s3 := (row_below hb3 (row_lt s2)).trans s2
          have hB3 := Below.then hB2 hb3
          clear r2 s2 hB2 hb3
          go_wp2_with fail
          refine (HFm.out _).mono ?_
          rintro e w4 ⟨rfl, hb4⟩
          have r4 := (row_below hb4 (row_lt r3)).trans r3
          have s4 := (row_below hb4 (row_lt s3)).trans s3
          have hB4 := Below.then hB3 hb4
          clear r3 s3 hB3 hb4
          go_wp2_with fail
          refine (HSt.out _).mono ?_
          rintro e w5 ⟨rfl, hb5⟩
          have r5 := (row_below hb5 (row_lt r4)).trans r4
          have s5 := (row_below hb5 (row_lt s4)).trans s4
          have hB5 := Below.then hB4 hb5
          clear r4 s4 hB4 hb5
          have r6 := (row_past w5 (.cells X.cells 67) _ (row_lt r5)).trans r5
          have s6 := (row_past w5 (.cells X.cells 67) _ (row_lt s5)).trans s5
          have x6 := row_at w5 X.cells 67 _ rfl
          have hB6 := Below.allocT hB5 (.cells X.cells 67)
          have lr5 := row_lt r5
          have ls5 := row_lt s5
          have gr6 := lr5
          have gs6 := ls5
          go_wp2_with fail
          clear r5 lr5 s5 ls5 hB5
          generalize w5.alloc (.cells X.cells 67) = w6 at *
          refine (HEn.out _).mono ?_
          rintro e w7 ⟨rfl, hb7⟩
          have r7 := (row_below hb7 (row_lt r6)).trans r6
          have s7 := (row_below hb7 (row_lt s6)).trans s6
          have x7 := (row_below hb7 (row_lt x6)).trans x6
          have hB7 := Below.then hB6 hb7
          clear r6 s6 x6 hB6 hb7
          have r8 := (row_past w7 (.cells Y.cells 67) _ (row_lt r7)).trans r7
          have s8 := (row_past w7 (.cells Y.cells 67) _ (row_lt s7)).trans s7
          have x8 := (row_past w7 (.cells Y.cells 67) _ (row_lt x7)).trans x7
          have y8 := row_at w7 Y.cells 67 _ rfl
          have hB8 := Below.allocT hB7 (.cells Y.cells 67)
          have lr7 := row_lt r7
          have ls7 := row_lt s7
          have lx7 := row_lt x7
          have gr8 := lr7
          have gs8 := ls7
          have gx8 := lx7
          go_wp2_with fail
          clear r7 lr7 s7 ls7 x7 lx7 hB7
          generalize w7.alloc (.cells Y.cells 67) = w8 at *
          refine (HCr.out _).mono ?_
          rintro e w9 ⟨rfl, hb9⟩
          have r9 := (row_below hb9 (row_lt r8)).trans r8
          have s9 := (row_below hb9 (row_lt s8)).trans s8
          have x9 := (row_below hb9 (row_lt x8)).trans x8
          have y9 := (row_below hb9 (row_lt y8)).trans y8
          have hB9 := Below.then hB8 hb9
          clear r8 s8 x8 y8 hB8 hb9
          have r10 := (row_past w9 (.cells Z.cells 67) _ (row_lt r9)).trans r9
          have s10 := (row_past w9 (.cells Z.cells 67) _ (row_lt s9)).trans s9
          have x10 := (row_past w9 (.cells Z.cells 67) _ (row_lt x9)).trans x9
          have y10 := (row_past w9 (.cells Z.cells 67) _ (row_lt y9)).trans y9
          have z10 := row_at w9 Z.cells 67 _ rfl
          have hB10 := Below.allocT hB9 (.cells Z.cells 67)
          have lr9 := row_lt r9
          have ls9 := row_lt s9
          have lx9 := row_lt x9
          have ly9 := row_lt y9
          have gr10 := lr9
          have gs10 := ls9
          have gx10 := lx9
          have gy10 := ly9
          go_wp2_with fail
          clear r9 lr9 s9 ls9 x9 lx9 y9 ly9 hB9
          generalize w9.alloc (.cells Z.cells 67) = w10 at *
          refine (HFX.out _).mono ?_
          rintro e w11 ⟨rfl, hb11⟩
          have r11 := (row_below hb11 (row_lt r10)).trans r10
          have s11 := (row_below hb11 (row_lt s10)).trans s10
          have x11 := (row_below hb11 (row_lt x10)).trans x10
          have y11 := (row_below hb11 (row_lt y10)).trans y10
          have z11 := (row_below hb11 (row_lt z10)).trans z10
          have hB11 := Below.then hB10 hb11
          clear r10 s10 x10 y10 z10 hB10 hb11
          have cr11 := fun i => row_cell r11 i
          have lr11 := row_lt r11
          have cs11 := fun i => row_cell s11 i
          have ls11 := row_lt s11
          have cx11 := fun i => row_cell x11 i
          have lx11 := row_lt x11
          have cz11 := fun i => row_cell z11 i
          have lz11 := row_lt z11
          go_wp2_with fail
          refine (HCX.out _).mono ?_
          rintro e w12 ⟨rfl, hb12⟩
          have r12 := (row_below hb12 (row_lt r11)).trans r11
          have s12 := (row_below hb12 (row_lt s11)).trans s11
          have x12 := (row_below hb12 (row_lt x11)).trans x11
          have y12 := (row_below hb12 (row_lt y11)).trans y11
          have z12 := (row_below hb12 (row_lt z11)).trans z11
          have hB12 := Below.then hB11 hb12
          clear r11 s11 x11 y11 z11 cr11 cs11 cx11 cz11 lr11 ls11 lx11 lz11 hB11 hb12
          have cr12 := fun i => row_cell r12 i
          have lr12 := row_lt r12
          have cs12 := fun i => row_cell s12 i
          have ls12 := row_lt s12
          have cz12 := fun i => row_cell z12 i
          have lz12 := row_lt z12
          go_wp2_with fail
          refine (HFB.out _).mono ?_
          rintro e w13 ⟨rfl, hb13⟩
          have r13 := (row_below hb13 (row_lt r12)).trans r12
          have s13 := (row_below hb13 (row_lt s12)).trans s12
          have x13 := (row_below hb13 (row_lt x12)).trans x12
          have y13 := (row_below hb13 (row_lt y12)).trans y12
          have z13 := (row_below hb13 (row_lt z12)).trans z12
          have hB13 := Below.then hB12 hb13
          clear r12 s12 x12 y12 z12 cr12 cs12 cz12 lr12 ls12 lz12 hB12 hb13
          have cr13 := fun i => row_cell r13 i
          have lr13 := row_lt r13
          have cs13 := fun i => row_cell s13 i
          have ls13 := row_lt s13
          have cz13 := fun i => row_cell z13 i
          have lz13 := row_lt z13
          go_wp2_with fail
          refine (HCm.out _).mono ?_
          rintro e w14 ⟨rfl, hb14⟩
          have r14 := (row_below hb14 (row_lt r13)).trans r13
          have s14 := (row_below hb14 (row_lt s13)).trans s13
          have x14 := (row_below hb14 (row_lt x13)).trans x13
          have y14 := (row_below hb14 (row_lt y13)).trans y13
          have z14 := (row_below hb14 (row_lt z13)).trans z13
          have hB14 := Below.then hB13 hb14
          clear r13 s13 x13 y13 z13 cr13 cs13 cz13 lr13 ls13 lz13 hB13 hb14
          have cr14 := fun i => row_cell r14 i
          have lr14 := row_lt r14
          have cs14 := fun i => row_cell s14 i
          have ls14 := row_lt s14
          have cz14 := fun i => row_cell z14 i
          have lz14 := row_lt z14
          go_wp2_with fail
          go_ret
          exact ⟨rfl, hB14⟩
        · go_enter Try.func11, Try.ntmps11
          go_wp2_with fail
          generalize (w.alloc (.cells P.cells 24)).alloc (.cells m.cells 67) = w0 at *
          refine (awake19_any _).mono ?_
          rintro e w1 ⟨rfl, hb1⟩
          have r1 := (row_below hb1 (row_lt r0)).trans r0
          have s1 := (row_below hb1 (row_lt s0)).trans s0
          have hB1 := Below.then hB0 hb1
          clear r0 s0 hB0 hb1
          go_wp2_with fail
          refine (plain_any P _).mono ?_
          rintro e w2 ⟨rfl, hb2⟩
          have r2 := (row_below hb2 (row_lt r1)).trans r1
          have s2 := (row_below hb2 (row_lt s1)).trans s1
          have hB2 := Below.then hB1 hb2
          clear r1 s1 hB1 hb2
          go_wp2_with fail
          refine (HR.out _).mono ?_
          rintro e w3 ⟨rfl, hb3⟩
          have r3 := (row_below hb3 (row_lt r2)).trans r2
          have s3 := (row_below hb3 (row_lt s2)).trans s2
          have hB3 := Below.then hB2 hb3
          clear r2 s2 hB2 hb3
          go_wp2_with fail
          refine (HFm.out _).mono ?_
          rintro e w4 ⟨rfl, hb4⟩
          have r4 := (row_below hb4 (row_lt r3)).trans r3
          have s4 := (row_below hb4 (row_lt s3)).trans s3
          have hB4 := Below.then hB3 hb4
          clear r3 s3 hB3 hb4
          go_wp2_with fail
          refine (HSt.out _).mono ?_
          rintro e w5 ⟨rfl, hb5⟩
          have r5 := (row_below hb5 (row_lt r4)).trans r4
          have s5 := (row_below hb5 (row_lt s4)).trans s4
          have hB5 := Below.then hB4 hb5
          clear r4 s4 hB4 hb5
          have r6 := (row_past w5 (.cells X.cells 67) _ (row_lt r5)).trans r5
          have s6 := (row_past w5 (.cells X.cells 67) _ (row_lt s5)).trans s5
          have x6 := row_at w5 X.cells 67 _ rfl
          have hB6 := Below.allocT hB5 (.cells X.cells 67)
          have lr5 := row_lt r5
          have ls5 := row_lt s5
          have gr6 := lr5
          have gs6 := ls5
          go_wp2_with fail
          clear r5 lr5 s5 ls5 hB5
          generalize w5.alloc (.cells X.cells 67) = w6 at *
          refine (HEn.out _).mono ?_
          rintro e w7 ⟨rfl, hb7⟩
          have r7 := (row_below hb7 (row_lt r6)).trans r6
          have s7 := (row_below hb7 (row_lt s6)).trans s6
          have x7 := (row_below hb7 (row_lt x6)).trans x6
          have hB7 := Below.then hB6 hb7
          clear r6 s6 x6 hB6 hb7
          have r8 := (row_past w7 (.cells Y.cells 67) _ (row_lt r7)).trans r7
          have s8 := (row_past w7 (.cells Y.cells 67) _ (row_lt s7)).trans s7
          have x8 := (row_past w7 (.cells Y.cells 67) _ (row_lt x7)).trans x7
          have y8 := row_at w7 Y.cells 67 _ rfl
          have hB8 := Below.allocT hB7 (.cells Y.cells 67)
          have lr7 := row_lt r7
          have ls7 := row_lt s7
          have lx7 := row_lt x7
          have gr8 := lr7
          have gs8 := ls7
          have gx8 := lx7
          go_wp2_with fail
          clear r7 lr7 s7 ls7 x7 lx7 hB7
          generalize w7.alloc (.cells Y.cells 67) = w8 at *
          refine (HCr.out _).mono ?_
          rintro e w9 ⟨rfl, hb9⟩
          have r9 := (row_below hb9 (row_lt r8)).trans r8
          have s9 := (row_below hb9 (row_lt s8)).trans s8
          have x9 := (row_below hb9 (row_lt x8)).trans x8
          have y9 := (row_below hb9 (row_lt y8)).trans y8
          have hB9 := Below.then hB8 hb9
          clear r8 s8 x8 y8 hB8 hb9
          have r10 := (row_past w9 (.cells Z.cells 67) _ (row_lt r9)).trans r9
          have s10 := (row_past w9 (.cells Z.cells 67) _ (row_lt s9)).trans s9
          have x10 := (row_past w9 (.cells Z.cells 67) _ (row_lt x9)).trans x9
          have y10 := (row_past w9 (.cells Z.cells 67) _ (row_lt y9)).trans y9
          have z10 := row_at w9 Z.cells 67 _ rfl
          have hB10 := Below.allocT hB9 (.cells Z.cells 67)
          have lr9 := row_lt r9
          have ls9 := row_lt s9
          have lx9 := row_lt x9
          have ly9 := row_lt y9
          have gr10 := lr9
          have gs10 := ls9
          have gx10 := lx9
          have gy10 := ly9
          go_wp2_with fail
          clear r9 lr9 s9 ls9 x9 lx9 y9 ly9 hB9
          generalize w9.alloc (.cells Z.cells 67) = w10 at *
          refine (HFX.out _).mono ?_
          rintro e w11 ⟨rfl, hb11⟩
          have r11 := (row_below hb11 (row_lt r10)).trans r10
          have s11 := (row_below hb11 (row_lt s10)).trans s10
          have x11 := (row_below hb11 (row_lt x10)).trans x10
          have y11 := (row_below hb11 (row_lt y10)).trans y10
          have z11 := (row_below hb11 (row_lt z10)).trans z10
          have hB11 := Below.then hB10 hb11
          clear r10 s10 x10 y10 z10 hB10 hb11
          have cr11 := fun i => row_cell r11 i
          have lr11 := row_lt r11
          have cs11 := fun i => row_cell s11 i
          have ls11 := row_lt s11
          have cx11 := fun i => row_cell x11 i
          have lx11 := row_lt x11
          have cz11 := fun i => row_cell z11 i
          have lz11 := row_lt z11
          go_wp2_with fail
          refine (HCX.out _).mono ?_
          rintro e w12 ⟨rfl, hb12⟩
          have r12 := (row_below hb12 (row_lt r11)).trans r11
          have s12 := (row_below hb12 (row_lt s11)).trans s11
          have x12 := (row_below hb12 (row_lt x11)).trans x11
          have y12 := (row_below hb12 (row_lt y11)).trans y11
          have z12 := (row_below hb12 (row_lt z11)).trans z11
          have hB12 := Below.then hB11 hb12
          clear r11 s11 x11 y11 z11 cr11 cs11 cx11 cz11 lr11 ls11 lx11 lz11 hB11 hb12
          have cr12 := fun i => row_cell r12 i
          have lr12 := row_lt r12
          have cs12 := fun i => row_cell s12 i
          have ls12 := row_lt s12
          have cz12 := fun i => row_cell z12 i
          have lz12 := row_lt z12
          go_wp2_with fail
          refine (HFB.out _).mono ?_
          rintro e w13 ⟨rfl, hb13⟩
          have r13 := (row_below hb13 (row_lt r12)).trans r12
          have s13 := (row_below hb13 (row_lt s12)).trans s12
          have x13 := (row_below hb13 (row_lt x12)).trans x12
          have y13 := (row_below hb13 (row_lt y12)).trans y12
          have z13 := (row_below hb13 (row_lt z12)).trans z12
          have hB13 := Below.then hB12 hb13
          clear r12 s12 x12 y12 z12 cr12 cs12 cz12 lr12 ls12 lz12 hB12 hb13
          have cr13 := fun i => row_cell r13 i
          have lr13 := row_lt r13
          have cs13 := fun i => row_cell s13 i
          have ls13 := row_lt s13
          have cz13 := fun i => row_cell z13 i
          have lz13 := row_lt z13
          go_wp2_with fail
          refine (HCm.out _).mono ?_
          rintro e w14 ⟨rfl, hb14⟩
          have r14 := (row_below hb14 (row_lt r13)).trans r13
          have s14 := (row_below hb14 (row_lt s13)).trans s13
          have x14 := (row_below hb14 (row_lt x13)).trans x13
          have y14 := (row_below hb14 (row_lt y13)).trans y13
          have z14 := (row_below hb14 (row_lt z13)).trans z13
          have hB14 := Below.then hB13 hb14
          clear r13 s13 x13 y13 z13 cr13 cs13 cz13 lr13 ls13 lz13 hB13 hb14
          have cr14 := fun i => row_cell r14 i
          have lr14 := row_lt r14
          have cs14 := fun i => row_cell s14 i
          have ls14 := row_lt s14
          have cz14 := fun i => row_cell z14 i
          have lz14 := row_lt z14
          go_wp2_with fail
          go_ret
          exact ⟨rfl, hB14⟩
        · go_enter Try.func11, Try.ntmps11
          go_wp2_with fail
          generalize (w.alloc (.cells P.cells 24)).alloc (.cells m.cells 67) = w0 at *
          refine (awake19_any _).mono ?_
          rintro e w1 ⟨rfl, hb1⟩
          have r1 := (row_below hb1 (row_lt r0)).trans r0
          have s1 := (row_below hb1 (row_lt s0)).trans s0
          have hB1 := Below.then hB0 hb1
          clear r0 s0 hB0 hb1
          go_wp2_with fail
          refine (plain_any P _).mono ?_
          rintro e w2 ⟨rfl, hb2⟩
          have r2 := (row_below hb2 (row_lt r1)).trans r1
          have s2 := (row_below hb2 (row_lt s1)).trans s1
          have hB2 := Below.then hB1 hb2
          clear r1 s1 hB1 hb2
          go_wp2_with fail
          refine (HR.out _).mono ?_
          rintro e w3 ⟨rfl, hb3⟩
          have r3 := (row_below hb3 (row_lt r2)).trans r2
          have s3 := (row_below hb3 (row_lt s2)).trans s2
          have hB3 := Below.then hB2 hb3
          clear r2 s2 hB2 hb3
          go_wp2_with fail
          refine (HFm.out _).mono ?_
          rintro e w4 ⟨rfl, hb4⟩
          have r4 := (row_below hb4 (row_lt r3)).trans r3
          have s4 := (row_below hb4 (row_lt s3)).trans s3
          have hB4 := Below.then hB3 hb4
          clear r3 s3 hB3 hb4
          go_wp2_with fail
          refine (HSt.out _).mono ?_
          rintro e w5 ⟨rfl, hb5⟩
          have r5 := (row_below hb5 (row_lt r4)).trans r4
          have s5 := (row_below hb5 (row_lt s4)).trans s4
          have hB5 := Below.then hB4 hb5
          clear r4 s4 hB4 hb5
          have r6 := (row_past w5 (.cells X.cells 67) _ (row_lt r5)).trans r5
          have s6 := (row_past w5 (.cells X.cells 67) _ (row_lt s5)).trans s5
          have x6 := row_at w5 X.cells 67 _ rfl
          have hB6 := Below.allocT hB5 (.cells X.cells 67)
          have lr5 := row_lt r5
          have ls5 := row_lt s5
          have gr6 := lr5
          have gs6 := ls5
          go_wp2_with fail
          clear r5 lr5 s5 ls5 hB5
          generalize w5.alloc (.cells X.cells 67) = w6 at *
          refine (HEn.out _).mono ?_
          rintro e w7 ⟨rfl, hb7⟩
          have r7 := (row_below hb7 (row_lt r6)).trans r6
          have s7 := (row_below hb7 (row_lt s6)).trans s6
          have x7 := (row_below hb7 (row_lt x6)).trans x6
          have hB7 := Below.then hB6 hb7
          clear r6 s6 x6 hB6 hb7
          have r8 := (row_past w7 (.cells Y.cells 67) _ (row_lt r7)).trans r7
          have s8 := (row_past w7 (.cells Y.cells 67) _ (row_lt s7)).trans s7
          have x8 := (row_past w7 (.cells Y.cells 67) _ (row_lt x7)).trans x7
          have y8 := row_at w7 Y.cells 67 _ rfl
          have hB8 := Below.allocT hB7 (.cells Y.cells 67)
          have lr7 := row_lt r7
          have ls7 := row_lt s7
          have lx7 := row_lt x7
          have gr8 := lr7
          have gs8 := ls7
          have gx8 := lx7
          go_wp2_with fail
          clear r7 lr7 s7 ls7 x7 lx7 hB7
          generalize w7.alloc (.cells Y.cells 67) = w8 at *
          refine (HCr.out _).mono ?_
          rintro e w9 ⟨rfl, hb9⟩
          have r9 := (row_below hb9 (row_lt r8)).trans r8
          have s9 := (row_below hb9 (row_lt s8)).trans s8
          have x9 := (row_below hb9 (row_lt x8)).trans x8
          have y9 := (row_below hb9 (row_lt y8)).trans y8
          have hB9 := Below.then hB8 hb9
          clear r8 s8 x8 y8 hB8 hb9
          have r10 := (row_past w9 (.cells Z.cells 67) _ (row_lt r9)).trans r9
          have s10 := (row_past w9 (.cells Z.cells 67) _ (row_lt s9)).trans s9
          have x10 := (row_past w9 (.cells Z.cells 67) _ (row_lt x9)).trans x9
          have y10 := (row_past w9 (.cells Z.cells 67) _ (row_lt y9)).trans y9
          have z10 := row_at w9 Z.cells 67 _ rfl
          have hB10 := Below.allocT hB9 (.cells Z.cells 67)
          have lr9 := row_lt r9
          have ls9 := row_lt s9
          have lx9 := row_lt x9
          have ly9 := row_lt y9
          have gr10 := lr9
          have gs10 := ls9
          have gx10 := lx9
          have gy10 := ly9
          go_wp2_with fail
          clear r9 lr9 s9 ls9 x9 lx9 y9 ly9 hB9
          generalize w9.alloc (.cells Z.cells 67) = w10 at *
          refine (HFX.out _).mono ?_
          rintro e w11 ⟨rfl, hb11⟩
          have r11 := (row_below hb11 (row_lt r10)).trans r10
          have s11 := (row_below hb11 (row_lt s10)).trans s10
          have x11 := (row_below hb11 (row_lt x10)).trans x10
          have y11 := (row_below hb11 (row_lt y10)).trans y10
          have z11 := (row_below hb11 (row_lt z10)).trans z10
          have hB11 := Below.then hB10 hb11
          clear r10 s10 x10 y10 z10 hB10 hb11
          have cr11 := fun i => row_cell r11 i
          have lr11 := row_lt r11
          have cs11 := fun i => row_cell s11 i
          have ls11 := row_lt s11
          have cx11 := fun i => row_cell x11 i
          have lx11 := row_lt x11
          have cz11 := fun i => row_cell z11 i
          have lz11 := row_lt z11
          go_wp2_with fail
          refine (HCX.out _).mono ?_
          rintro e w12 ⟨rfl, hb12⟩
          have r12 := (row_below hb12 (row_lt r11)).trans r11
          have s12 := (row_below hb12 (row_lt s11)).trans s11
          have x12 := (row_below hb12 (row_lt x11)).trans x11
          have y12 := (row_below hb12 (row_lt y11)).trans y11
          have z12 := (row_below hb12 (row_lt z11)).trans z11
          have hB12 := Below.then hB11 hb12
          clear r11 s11 x11 y11 z11 cr11 cs11 cx11 cz11 lr11 ls11 lx11 lz11 hB11 hb12
          have cr12 := fun i => row_cell r12 i
          have lr12 := row_lt r12
          have cs12 := fun i => row_cell s12 i
          have ls12 := row_lt s12
          have cz12 := fun i => row_cell z12 i
          have lz12 := row_lt z12
          go_wp2_with fail
          refine (HFB.out _).mono ?_
          rintro e w13 ⟨rfl, hb13⟩
          have r13 := (row_below hb13 (row_lt r12)).trans r12
          have s13 := (row_below hb13 (row_lt s12)).trans s12
          have x13 := (row_below hb13 (row_lt x12)).trans x12
          have y13 := (row_below hb13 (row_lt y12)).trans y12
          have z13 := (row_below hb13 (row_lt z12)).trans z12
          have hB13 := Below.then hB12 hb13
          clear r12 s12 x12 y12 z12 cr12 cs12 cz12 lr12 ls12 lz12 hB12 hb13
          have cr13 := fun i => row_cell r13 i
          have lr13 := row_lt r13
          have cs13 := fun i => row_cell s13 i
          have ls13 := row_lt s13
          have cz13 := fun i => row_cell z13 i
          have lz13 := row_lt z13
          go_wp2_with fail
          refine (HCm.out _).mono ?_
          rintro e w14 ⟨rfl, hb14⟩
          have r14 := (row_below hb14 (row_lt r13)).trans r13
          have s14 := (row_below hb14 (row_lt s13)).trans s13
          have x14 := (row_below hb14 (row_lt x13)).trans x13
          have y14 := (row_below hb14 (row_lt y13)).trans y13
          have z14 := (row_below hb14 (row_lt z13)).trans z13
          have hB14 := Below.then hB13 hb14
          clear r13 s13 x13 y13 z13 cr13 cs13 cz13 lr13 ls13 lz13 hB13 hb14
          have cr14 := fun i => row_cell r14 i
          have lr14 := row_lt r14
          have cs14 := fun i => row_cell s14 i
          have ls14 := row_lt s14
          have cz14 := fun i => row_cell z14 i
          have lz14 := row_lt z14
          go_wp2_with fail
          refine (HFC.out _).mono ?_
          rintro e w15 ⟨rfl, hb15⟩
          have r15 := (row_below hb15 (row_lt r14)).trans r14
          have s15 := (row_below hb15 (row_lt s14)).trans s14
          have x15 := (row_below hb15 (row_lt x14)).trans x14
          have y15 := (row_below hb15 (row_lt y14)).trans y14
          have z15 := (row_below hb15 (row_lt z14)).trans z14
          have hB15 := Below.then hB14 hb15
          clear r14 s14 x14 y14 z14 cr14 cs14 cz14 lr14 ls14 lz14 hB14 hb15
          go_wp2_with fail
          go_ret
          exact ⟨rfl, hB15⟩
end Go.Proofs.Ytkfbnaafpikgfaa
