/-
  Layer 14: what is paid of any prize, and what is above the most.
-/
import Derived.Test.YtkfbnaafpikgfaaPrize3
namespace Go.Proofs.Ytkfbnaafpikgfaa
open Go.RowKit
set_option linter.unusedVariables false

theorem payS_form (P : Par) (s : St) (a : Nat) : ∃ d, payS P s a = ⟨d, s.eff, s.score, s.streak⟩ ∧ s.bal ≤ d ∧ payR P s a ≤ a ∧ d - s.bal = a - payR P s a ∧ (rightB P = true → (d = s.bal ∨ (d ≠ s.bal ∧ d ≤ P.cap ∧ (payR P s a = 0 ∨ (payR P s a ≠ 0 ∧ d = P.cap))))) := by
  cases hr : rightB P
  · refine ⟨s.bal, by simp [payS, hr], by omega, by simp [payR, hr], by simp [payR, hr], fun h => by cases h⟩
  · have hg : payG P s a = min a (P.cap - s.bal) := rfl
    have hR : payR P s a = a - payG P s a := by simp [payR, hr]
    refine ⟨s.bal + payG P s a, by simp [payS, hr], by omega, by omega, by omega, fun _ => by omega⟩
theorem payS_lt {P : Par} {s : St} {a : Nat} (hs : s.Ok) (ha : a < 18446744073709551616) : (payS P s a).bal < 18446744073709551616 := by
  cases hr : rightB P
  · simp only [payS, hr]; exact hs.bal
  · have hcap := (stakes_facts (right_facts hr).1).2.2.2.2.2.2.2.1
    have hsb := hs.bal
    have hg : payG P s a = min a (P.cap - s.bal) := rfl
    simp only [payS, hr, if_true]
    omega
set_option maxHeartbeats 4000000 in
set_option maxRecDepth 100000 in
theorem prizePays_any (P : Par) (s : St) (a : Nat) (hs : s.Ok) (ha : a < 18446744073709551616) (w : World) : Calls Try.prog 8 #[.agg P.cells, .agg s.cells, .int .u64 a] w fun e w' => e = .returned (.bool true) ∧ Below w.heap.size w w' := by
  have r0 : row ((w.alloc (.cells P.cells 24)).alloc (.cells s.cells 48)) w.heap.size = some P.cells := (by (repeat (first | assumption | (refine row_at _ _ _ _ ?_; first | rfl | (simp only [World.size_alloc]; done) | (simp only [World.size_alloc]; omega)) | (refine (row_past _ _ _ ?_).trans ?_; (focus (first | exact Nat.lt_succ_self _ | ((repeat rw [World.size_alloc]); omega) | (simp; done) | (simp; omega) | omega))) | rw [row_drewN] | rw [row_drew])); (first | done | fail))
  have s0 : row ((w.alloc (.cells P.cells 24)).alloc (.cells s.cells 48)) (w.heap.size + 1) = some s.cells := (by (repeat (first | assumption | (refine row_at _ _ _ _ ?_; first | rfl | (simp only [World.size_alloc]; done) | (simp only [World.size_alloc]; omega)) | (refine (row_past _ _ _ ?_).trans ?_; (focus (first | exact Nat.lt_succ_self _ | ((repeat rw [World.size_alloc]); omega) | (simp; done) | (simp; omega) | omega))) | rw [row_drewN] | rw [row_drew])); (first | done | fail))
  have hB0 : Below w.heap.size w ((w.alloc (.cells P.cells 24)).alloc (.cells s.cells 48)) := (by (repeat (first | exact Below.refl _ _ | assumption | (refine Below.allocT ?_ _) | refine Below.drew ?_ | refine below_drewN ?_ _ | (refine Below.then ?_ (by assumption)) | (refine Below.setRow ?_ ?_ _; rotate_left; (focus (first | exact Nat.lt_succ_self _ | ((repeat rw [World.size_alloc]); omega) | (simp; done) | (simp; omega) | omega))) | (refine Below.setCell ?_ ?_ _; rotate_left; (focus (first | exact Nat.lt_succ_self _ | ((repeat rw [World.size_alloc]); omega) | (simp; done) | (simp; omega) | omega))) | (refine Below.then' ?_ (by assumption) ?_; rotate_left; (focus (first | exact Nat.lt_succ_self _ | ((repeat rw [World.size_alloc]); omega) | (simp; done) | (simp; omega) | omega))) | fail)); (first | done | fail))
  have HT := Lib.hid (fun W => pay_any P s a hs ha W)
  have HR := Lib.hid (fun W => right_any P W)
  cases hr : rightB P
  · rw [show payS P s a = s by simp [payS, hr], show payR P s a = a by simp [payR, hr]] at HT
    rw [hr] at HR
    clear hr hs ha
    go_enter Try.func8, Try.ntmps8
    go_wp2_with fail
    generalize (w.alloc (.cells P.cells 24)).alloc (.cells s.cells 48) = w0 at *
    refine (awake14_any _).mono ?_
    rintro e w1 ⟨rfl, hb1⟩
    have r1 := (row_below hb1 (row_lt r0)).trans r0
    have s1 := (row_below hb1 (row_lt s0)).trans s0
    have hB1 := Below.then hB0 hb1
    clear r0 s0 hB0 hb1
    go_wp2_with fail
    refine (HT.out _).mono ?_
    rintro e w2 ⟨rfl, hb2⟩
    have r2 := (row_below hb2 (row_lt r1)).trans r1
    have s2 := (row_below hb2 (row_lt s1)).trans s1
    have hB2 := Below.then hB1 hb2
    clear r1 s1 hB1 hb2
    have r3 := (row_past w2 (.cells s.cells 48) _ (row_lt r2)).trans r2
    have s3 := (row_past w2 (.cells s.cells 48) _ (row_lt s2)).trans s2
    have t3 := row_at w2 s.cells 48 _ rfl
    have hB3 := Below.allocT hB2 (.cells s.cells 48)
    have lr2 := row_lt r2
    have ls2 := row_lt s2
    have gr3 := lr2
    have gs3 := ls2
    go_wp2_with fail
    clear r2 lr2 s2 ls2 hB2
    generalize w2.alloc (.cells s.cells 48) = w3 at *
    refine (plain_any P _).mono ?_
    rintro e w4 ⟨rfl, hb4⟩
    have s4 := (row_below hb4 (row_lt s3)).trans s3
    have t4 := (row_below hb4 (row_lt t3)).trans t3
    have hB4 := Below.then hB3 hb4
    clear r3 s3 t3 hB3 hb4
    have s5 := (row_past w4 (.cells P.cells 30) _ (row_lt s4)).trans s4
    have t5 := (row_past w4 (.cells P.cells 30) _ (row_lt t4)).trans t4
    have p5 := row_at w4 P.cells 30 _ rfl
    have hB5 := Below.allocT hB4 (.cells P.cells 30)
    have ls4 := row_lt s4
    have lt4 := row_lt t4
    have gs5 := ls4
    have gt5 := lt4
    go_wp2_with fail
    clear s4 ls4 t4 lt4 hB4
    generalize w4.alloc (.cells P.cells 30) = w5 at *
    refine (HR.out _).mono ?_
    rintro e w6 ⟨rfl, hb6⟩
    have s6 := (row_below hb6 (row_lt s5)).trans s5
    have t6 := (row_below hb6 (row_lt t5)).trans t5
    have hB6 := Below.then hB5 hb6
    clear s5 t5 p5 hB5 hb6
    go_wp2_with fail
    go_ret
    exact ⟨rfl, hB6⟩
  · have HY := Lib.hid (fun W => rpay_any P s a hs ha hr W)
    rw [hr] at HR
    generalize payS P s a = T at *
    generalize payR P s a = rest at *
    clear hr hs ha
    go_enter Try.func8, Try.ntmps8
    go_wp2_with fail
    generalize (w.alloc (.cells P.cells 24)).alloc (.cells s.cells 48) = w0 at *
    refine (awake14_any _).mono ?_
    rintro e w1 ⟨rfl, hb1⟩
    have r1 := (row_below hb1 (row_lt r0)).trans r0
    have s1 := (row_below hb1 (row_lt s0)).trans s0
    have hB1 := Below.then hB0 hb1
    clear r0 s0 hB0 hb1
    go_wp2_with fail
    refine (HT.out _).mono ?_
    rintro e w2 ⟨rfl, hb2⟩
    have r2 := (row_below hb2 (row_lt r1)).trans r1
    have s2 := (row_below hb2 (row_lt s1)).trans s1
    have hB2 := Below.then hB1 hb2
    clear r1 s1 hB1 hb2
    have r3 := (row_past w2 (.cells T.cells 48) _ (row_lt r2)).trans r2
    have s3 := (row_past w2 (.cells T.cells 48) _ (row_lt s2)).trans s2
    have t3 := row_at w2 T.cells 48 _ rfl
    have hB3 := Below.allocT hB2 (.cells T.cells 48)
    have lr2 := row_lt r2
    have ls2 := row_lt s2
    have gr3 := lr2
    have gs3 := ls2
    go_wp2_with fail
    clear r2 lr2 s2 ls2 hB2
    generalize w2.alloc (.cells T.cells 48) = w3 at *
    refine (plain_any P _).mono ?_
    rintro e w4 ⟨rfl, hb4⟩
    have s4 := (row_below hb4 (row_lt s3)).trans s3
    have t4 := (row_below hb4 (row_lt t3)).trans t3
    have hB4 := Below.then hB3 hb4
    clear r3 s3 t3 hB3 hb4
    have s5 := (row_past w4 (.cells P.cells 30) _ (row_lt s4)).trans s4
    have t5 := (row_past w4 (.cells P.cells 30) _ (row_lt t4)).trans t4
    have p5 := row_at w4 P.cells 30 _ rfl
    have hB5 := Below.allocT hB4 (.cells P.cells 30)
    have ls4 := row_lt s4
    have lt4 := row_lt t4
    have gs5 := ls4
    have gt5 := lt4
    go_wp2_with fail
    clear s4 ls4 t4 lt4 hB4
    generalize w4.alloc (.cells P.cells 30) = w5 at *
    refine (HR.out _).mono ?_
    rintro e w6 ⟨rfl, hb6⟩
    have s6 := (row_below hb6 (row_lt s5)).trans s5
    have t6 := (row_below hb6 (row_lt t5)).trans t5
    have p6 := (row_below hb6 (row_lt p5)).trans p5
    have hB6 := Below.then hB5 hb6
    clear s5 t5 p5 hB5 hb6
    go_wp2_with fail
    refine (HY.out _).mono ?_
    rintro e w7 ⟨rfl, hb7⟩
    have t7 := (row_below hb7 (row_lt t6)).trans t6
    have hB7 := Below.then hB6 hb7
    clear s6 t6 p6 hB6 hb7
    have t8 := (row_past w7 (.cells T.cells 49) _ (row_lt t7)).trans t7
    have b8 := row_at w7 T.cells 49 _ rfl
    have hB8 := Below.allocT hB7 (.cells T.cells 49)
    have lt7 := row_lt t7
    have gt8 := lt7
    go_wp2_with fail
    clear t7 lt7 hB7
    generalize w7.alloc (.cells T.cells 49) = w8 at *
    go_ret
    exact ⟨rfl, hB8⟩
set_option maxHeartbeats 4000000 in
set_option maxRecDepth 100000 in
theorem prizeWhole_any (P : Par) (s : St) (a : Nat) (hs : s.Ok) (ha : a < 18446744073709551616) (w : World) : Calls Try.prog 9 #[.agg P.cells, .agg s.cells, .int .u64 a] w fun e w' => e = .returned (.bool true) ∧ Below w.heap.size w w' := by
  have r0 : row ((w.alloc (.cells P.cells 24)).alloc (.cells s.cells 48)) w.heap.size = some P.cells := (by (repeat (first | assumption | (refine row_at _ _ _ _ ?_; first | rfl | (simp only [World.size_alloc]; done) | (simp only [World.size_alloc]; omega)) | (refine (row_past _ _ _ ?_).trans ?_; (focus (first | exact Nat.lt_succ_self _ | ((repeat rw [World.size_alloc]); omega) | (simp; done) | (simp; omega) | omega))) | rw [row_drewN] | rw [row_drew])); (first | done | fail))
  have s0 : row ((w.alloc (.cells P.cells 24)).alloc (.cells s.cells 48)) (w.heap.size + 1) = some s.cells := (by (repeat (first | assumption | (refine row_at _ _ _ _ ?_; first | rfl | (simp only [World.size_alloc]; done) | (simp only [World.size_alloc]; omega)) | (refine (row_past _ _ _ ?_).trans ?_; (focus (first | exact Nat.lt_succ_self _ | ((repeat rw [World.size_alloc]); omega) | (simp; done) | (simp; omega) | omega))) | rw [row_drewN] | rw [row_drew])); (first | done | fail))
  have hB0 : Below w.heap.size w ((w.alloc (.cells P.cells 24)).alloc (.cells s.cells 48)) := (by (repeat (first | exact Below.refl _ _ | assumption | (refine Below.allocT ?_ _) | refine Below.drew ?_ | refine below_drewN ?_ _ | (refine Below.then ?_ (by assumption)) | (refine Below.setRow ?_ ?_ _; rotate_left; (focus (first | exact Nat.lt_succ_self _ | ((repeat rw [World.size_alloc]); omega) | (simp; done) | (simp; omega) | omega))) | (refine Below.setCell ?_ ?_ _; rotate_left; (focus (first | exact Nat.lt_succ_self _ | ((repeat rw [World.size_alloc]); omega) | (simp; done) | (simp; omega) | omega))) | (refine Below.then' ?_ (by assumption) ?_; rotate_left; (focus (first | exact Nat.lt_succ_self _ | ((repeat rw [World.size_alloc]); omega) | (simp; done) | (simp; omega) | omega))) | fail)); (first | done | fail))
  have HT := Lib.hid (fun W => pay_any P s a hs ha W)
  have HR := Lib.hid (fun W => right_any P W)
  have hlt := payS_lt (P := P) hs ha
  obtain ⟨d, hd, h1, h2, h3, h4⟩ := payS_form P s a
  rw [hd] at HT hlt
  simp only [] at hlt
  generalize payR P s a = rest at *
  obtain ⟨g, hg⟩ : ∃ g, g = a - rest := ⟨_, rfl⟩
  have hsb := hs.bal
  have t1 : ¬ (a : Int) < (rest : Int) := by omega
  have t2 : ¬ (d : Int) < (s.bal : Int) := by omega
  have E1 : IntKind.u64.wrap ((d : Int) - (s.bal : Int)) = (g : Int) := by rw [show (d : Int) - (s.bal : Int) = ((g : Nat) : Int) by omega]; exact Bits.wrapN _ (by omega)
  have E2 : IntKind.u64.wrap ((a : Int) - (rest : Int)) = (g : Int) := by rw [show (a : Int) - (rest : Int) = ((g : Nat) : Int) by omega]; exact Bits.wrapN _ (by omega)
  have HE1 := Lib.hid E1
  have HE2 := Lib.hid E2
  clear hd hs hg hsb E1 E2
  cases hr : rightB P
  · rw [hr] at HR
    clear hr h4 h1 h2 h3 hlt ha
    go_enter Try.func9, Try.ntmps9
    go_wp2_with fail
    generalize (w.alloc (.cells P.cells 24)).alloc (.cells s.cells 48) = w0 at *
    refine (awake14_any _).mono ?_
    rintro e w1 ⟨rfl, hb1⟩
    have r1 := (row_below hb1 (row_lt r0)).trans r0
    have s1 := (row_below hb1 (row_lt s0)).trans s0
    have hB1 := Below.then hB0 hb1
    clear r0 s0 hB0 hb1
    have cs1 := fun i => row_cell s1 i
    have ls1 := row_lt s1
    go_wp2_with fail
    have E1 := HE1.out
    have E2 := HE2.out
    refine (HT.out _).mono ?_
    rintro e w2 ⟨rfl, hb2⟩
    have r2 := (row_below hb2 (row_lt r1)).trans r1
    have s2 := (row_below hb2 (row_lt s1)).trans s1
    have hB2 := Below.then hB1 hb2
    clear r1 s1 cs1 ls1 hB1 hb2
    have r3 := (row_past w2 (.cells (St.cells ⟨d, s.eff, s.score, s.streak⟩) 48) _ (row_lt r2)).trans r2
    have s3 := (row_past w2 (.cells (St.cells ⟨d, s.eff, s.score, s.streak⟩) 48) _ (row_lt s2)).trans s2
    have t3 := row_at w2 (St.cells ⟨d, s.eff, s.score, s.streak⟩) 48 _ rfl
    have hB3 := Below.allocT hB2 (.cells (St.cells ⟨d, s.eff, s.score, s.streak⟩) 48)
    have lr2 := row_lt r2
    have ls2 := row_lt s2
    have cr2 := fun i => row_cell r2 i
    have cs2 := fun i => row_cell s2 i
    have gr3 := lr2
    have gs3 := ls2
    go_wp2_with fail
    clear r2 lr2 s2 ls2 cr2 cs2 hB2
    generalize w2.alloc (.cells (St.cells ⟨d, s.eff, s.score, s.streak⟩) 48) = w3 at *
    have cr3 := fun i => row_cell r3 i
    have lr3 := row_lt r3
    have cs3 := fun i => row_cell s3 i
    have ls3 := row_lt s3
    refine (plain_any P _).mono ?_
    rintro e w4 ⟨rfl, hb4⟩
    have r4 := (row_below hb4 (row_lt r3)).trans r3
    have s4 := (row_below hb4 (row_lt s3)).trans s3
    have t4 := (row_below hb4 (row_lt t3)).trans t3
    have hB4 := Below.then hB3 hb4
    clear r3 s3 t3 cr3 cs3 lr3 ls3 hB3 hb4
    have cr4 := fun i => row_cell r4 i
    have lr4 := row_lt r4
    have cs4 := fun i => row_cell s4 i
    have ls4 := row_lt s4
    have ct4 := fun i => row_cell t4 i
    have lt4 := row_lt t4
    go_wp2_with fail
    refine (HR.out _).mono ?_
    rintro e w5 ⟨rfl, hb5⟩
    have hB5 := Below.then hB4 hb5
    clear r4 s4 t4 cr4 cs4 ct4 lr4 ls4 lt4 hB4 hb5
    go_wp2_with fail
    go_ret
    exact ⟨rfl, hB5⟩
  · have h5 := h4 hr
    rw [hr] at HR
    clear hr h4 h1 h2 h3 hlt ha
    rcases h5 with h5 | ⟨h5, h6, h7 | ⟨h7, h8⟩⟩
    · have q1 : ((d : Int) == (s.bal : Int)) = true := by rw [beq_iff_eq]; omega
      clear h5
      go_enter Try.func9, Try.ntmps9
      go_wp2_with fail
      generalize (w.alloc (.cells P.cells 24)).alloc (.cells s.cells 48) = w0 at *
      refine (awake14_any _).mono ?_
      rintro e w1 ⟨rfl, hb1⟩
      have r1 := (row_below hb1 (row_lt r0)).trans r0
      have s1 := (row_below hb1 (row_lt s0)).trans s0
      have hB1 := Below.then hB0 hb1
      clear r0 s0 hB0 hb1
      have cs1 := fun i => row_cell s1 i
      have ls1 := row_lt s1
      go_wp2_with fail
      have E1 := HE1.out
      have E2 := HE2.out
      refine (HT.out _).mono ?_
      rintro e w2 ⟨rfl, hb2⟩
      have r2 := (row_below hb2 (row_lt r1)).trans r1
      have s2 := (row_below hb2 (row_lt s1)).trans s1
      have hB2 := Below.then hB1 hb2
      clear r1 s1 cs1 ls1 hB1 hb2
      have r3 := (row_past w2 (.cells (St.cells ⟨d, s.eff, s.score, s.streak⟩) 48) _ (row_lt r2)).trans r2
      have s3 := (row_past w2 (.cells (St.cells ⟨d, s.eff, s.score, s.streak⟩) 48) _ (row_lt s2)).trans s2
      have t3 := row_at w2 (St.cells ⟨d, s.eff, s.score, s.streak⟩) 48 _ rfl
      have hB3 := Below.allocT hB2 (.cells (St.cells ⟨d, s.eff, s.score, s.streak⟩) 48)
      have lr2 := row_lt r2
      have ls2 := row_lt s2
      have cr2 := fun i => row_cell r2 i
      have cs2 := fun i => row_cell s2 i
      have gr3 := lr2
      have gs3 := ls2
      go_wp2_with fail
      clear r2 lr2 s2 ls2 cr2 cs2 hB2
      generalize w2.alloc (.cells (St.cells ⟨d, s.eff, s.score, s.streak⟩) 48) = w3 at *
      have cr3 := fun i => row_cell r3 i
      have lr3 := row_lt r3
      have cs3 := fun i => row_cell s3 i
      have ls3 := row_lt s3
      refine (plain_any P _).mono ?_
      rintro e w4 ⟨rfl, hb4⟩
      have r4 := (row_below hb4 (row_lt r3)).trans r3
      have s4 := (row_below hb4 (row_lt s3)).trans s3
      have t4 := (row_below hb4 (row_lt t3)).trans t3
      have hB4 := Below.then hB3 hb4
      clear r3 s3 t3 cr3 cs3 lr3 ls3 hB3 hb4
      have cr4 := fun i => row_cell r4 i
      have lr4 := row_lt r4
      have cs4 := fun i => row_cell s4 i
      have ls4 := row_lt s4
      have ct4 := fun i => row_cell t4 i
      have lt4 := row_lt t4
      go_wp2_with fail
      refine (HR.out _).mono ?_
      rintro e w5 ⟨rfl, hb5⟩
      have r5 := (row_below hb5 (row_lt r4)).trans r4
      have s5 := (row_below hb5 (row_lt s4)).trans s4
      have t5 := (row_below hb5 (row_lt t4)).trans t4
      have hB5 := Below.then hB4 hb5
      clear r4 s4 t4 cr4 cs4 ct4 lr4 ls4 lt4 hB4 hb5
      have cr5 := fun i => row_cell r5 i
      have lr5 := row_lt r5
      have cs5 := fun i => row_cell s5 i
      have ls5 := row_lt s5
      have ct5 := fun i => row_cell t5 i
      have lt5 := row_lt t5
      go_wp2_with fail
      go_ret
      exact ⟨rfl, hB5⟩
    · have q1 : ((d : Int) == (s.bal : Int)) = false := beq_eq_false_iff_ne.2 (by omega)
      have q2 : (d : Int) ≤ (P.cap : Int) := by omega
      have q3 : ((rest : Int) == 0) = true := by rw [beq_iff_eq]; omega
      clear h5 h6 h7
      go_enter Try.func9, Try.ntmps9
      go_wp2_with fail
      generalize (w.alloc (.cells P.cells 24)).alloc (.cells s.cells 48) = w0 at *
      refine (awake14_any _).mono ?_
      rintro e w1 ⟨rfl, hb1⟩
      have r1 := (row_below hb1 (row_lt r0)).trans r0
      have s1 := (row_below hb1 (row_lt s0)).trans s0
      have hB1 := Below.then hB0 hb1
      clear r0 s0 hB0 hb1
      have cs1 := fun i => row_cell s1 i
      have ls1 := row_lt s1
      go_wp2_with fail
      have E1 := HE1.out
      have E2 := HE2.out
      refine (HT.out _).mono ?_
      rintro e w2 ⟨rfl, hb2⟩
      have r2 := (row_below hb2 (row_lt r1)).trans r1
      have s2 := (row_below hb2 (row_lt s1)).trans s1
      have hB2 := Below.then hB1 hb2
      clear r1 s1 cs1 ls1 hB1 hb2
      have r3 := (row_past w2 (.cells (St.cells ⟨d, s.eff, s.score, s.streak⟩) 48) _ (row_lt r2)).trans r2
      have s3 := (row_past w2 (.cells (St.cells ⟨d, s.eff, s.score, s.streak⟩) 48) _ (row_lt s2)).trans s2
      have t3 := row_at w2 (St.cells ⟨d, s.eff, s.score, s.streak⟩) 48 _ rfl
      have hB3 := Below.allocT hB2 (.cells (St.cells ⟨d, s.eff, s.score, s.streak⟩) 48)
      have lr2 := row_lt r2
      have ls2 := row_lt s2
      have cr2 := fun i => row_cell r2 i
      have cs2 := fun i => row_cell s2 i
      have gr3 := lr2
      have gs3 := ls2
      go_wp2_with fail
      clear r2 lr2 s2 ls2 cr2 cs2 hB2
      generalize w2.alloc (.cells (St.cells ⟨d, s.eff, s.score, s.streak⟩) 48) = w3 at *
      have cr3 := fun i => row_cell r3 i
      have lr3 := row_lt r3
      have cs3 := fun i => row_cell s3 i
      have ls3 := row_lt s3
      refine (plain_any P _).mono ?_
      rintro e w4 ⟨rfl, hb4⟩
      have r4 := (row_below hb4 (row_lt r3)).trans r3
      have s4 := (row_below hb4 (row_lt s3)).trans s3
      have t4 := (row_below hb4 (row_lt t3)).trans t3
      have hB4 := Below.then hB3 hb4
      clear r3 s3 t3 cr3 cs3 lr3 ls3 hB3 hb4
      have cr4 := fun i => row_cell r4 i
      have lr4 := row_lt r4
      have cs4 := fun i => row_cell s4 i
      have ls4 := row_lt s4
      have ct4 := fun i => row_cell t4 i
      have lt4 := row_lt t4
      go_wp2_with fail
      refine (HR.out _).mono ?_
      rintro e w5 ⟨rfl, hb5⟩
      have r5 := (row_below hb5 (row_lt r4)).trans r4
      have s5 := (row_below hb5 (row_lt s4)).trans s4
      have t5 := (row_below hb5 (row_lt t4)).trans t4
      have hB5 := Below.then hB4 hb5
      clear r4 s4 t4 cr4 cs4 ct4 lr4 ls4 lt4 hB4 hb5
      have cr5 := fun i => row_cell r5 i
      have lr5 := row_lt r5
      have cs5 := fun i => row_cell s5 i
      have ls5 := row_lt s5
      have ct5 := fun i => row_cell t5 i
      have lt5 := row_lt t5
      go_wp2_with fail
      go_ret
      exact ⟨rfl, hB5⟩
    · have q1 : ((d : Int) == (s.bal : Int)) = false := beq_eq_false_iff_ne.2 (by omega)
      have q2 : (d : Int) ≤ (P.cap : Int) := by omega
      have q3 : ((rest : Int) == 0) = false := beq_eq_false_iff_ne.2 (by omega)
      have q4 : ((d : Int) == (P.cap : Int)) = true := by rw [beq_iff_eq]; omega
      clear h5 h6 h7 h8
      go_enter Try.func9, Try.ntmps9
      go_wp2_with fail
      generalize (w.alloc (.cells P.cells 24)).alloc (.cells s.cells 48) = w0 at *
      refine (awake14_any _).mono ?_
      rintro e w1 ⟨rfl, hb1⟩
      have r1 := (row_below hb1 (row_lt r0)).trans r0
      have s1 := (row_below hb1 (row_lt s0)).trans s0
      have hB1 := Below.then hB0 hb1
      clear r0 s0 hB0 hb1
      have cs1 := fun i => row_cell s1 i
      have ls1 := row_lt s1
      go_wp2_with fail
      have E1 := HE1.out
      have E2 := HE2.out
      refine (HT.out _).mono ?_
      rintro e w2 ⟨rfl, hb2⟩
      have r2 := (row_below hb2 (row_lt r1)).trans r1
      have s2 := (row_below hb2 (row_lt s1)).trans s1
      have hB2 := Below.then hB1 hb2
      clear r1 s1 cs1 ls1 hB1 hb2
      have r3 := (row_past w2 (.cells (St.cells ⟨d, s.eff, s.score, s.streak⟩) 48) _ (row_lt r2)).trans r2
      have s3 := (row_past w2 (.cells (St.cells ⟨d, s.eff, s.score, s.streak⟩) 48) _ (row_lt s2)).trans s2
      have t3 := row_at w2 (St.cells ⟨d, s.eff, s.score, s.streak⟩) 48 _ rfl
      have hB3 := Below.allocT hB2 (.cells (St.cells ⟨d, s.eff, s.score, s.streak⟩) 48)
      have lr2 := row_lt r2
      have ls2 := row_lt s2
      have cr2 := fun i => row_cell r2 i
      have cs2 := fun i => row_cell s2 i
      have gr3 := lr2
      have gs3 := ls2
      go_wp2_with fail
      clear r2 lr2 s2 ls2 cr2 cs2 hB2
      generalize w2.alloc (.cells (St.cells ⟨d, s.eff, s.score, s.streak⟩) 48) = w3 at *
      have cr3 := fun i => row_cell r3 i
      have lr3 := row_lt r3
      have cs3 := fun i => row_cell s3 i
      have ls3 := row_lt s3
      refine (plain_any P _).mono ?_
      rintro e w4 ⟨rfl, hb4⟩
      have r4 := (row_below hb4 (row_lt r3)).trans r3
      have s4 := (row_below hb4 (row_lt s3)).trans s3
      have t4 := (row_below hb4 (row_lt t3)).trans t3
      have hB4 := Below.then hB3 hb4
      clear r3 s3 t3 cr3 cs3 lr3 ls3 hB3 hb4
      have cr4 := fun i => row_cell r4 i
      have lr4 := row_lt r4
      have cs4 := fun i => row_cell s4 i
      have ls4 := row_lt s4
      have ct4 := fun i => row_cell t4 i
      have lt4 := row_lt t4
      go_wp2_with fail
      refine (HR.out _).mono ?_
      rintro e w5 ⟨rfl, hb5⟩
      have r5 := (row_below hb5 (row_lt r4)).trans r4
      have s5 := (row_below hb5 (row_lt s4)).trans s4
      have t5 := (row_below hb5 (row_lt t4)).trans t4
      have hB5 := Below.then hB4 hb5
      clear r4 s4 t4 cr4 cs4 ct4 lr4 ls4 lt4 hB4 hb5
      have cr5 := fun i => row_cell r5 i
      have lr5 := row_lt r5
      have cs5 := fun i => row_cell s5 i
      have ls5 := row_lt s5
      have ct5 := fun i => row_cell t5 i
      have lt5 := row_lt t5
      go_wp2_with fail
      go_ret
      exact ⟨rfl, hB5⟩
end Go.Proofs.Ytkfbnaafpikgfaa
