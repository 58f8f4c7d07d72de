/-
  The walks of FineSplits, FineTakes and FineLeast.
-/
import Derived.Test.YtecdfphfgaeodaaFine2
namespace Go.Proofs.Ytecdfphfgaeodaa
open Go.RowKit
set_option linter.unusedVariables false

theorem burn_simple : burnV simpleP 3 = 1 ∧ treasV simpleP 3 = 2 := by unfold burnV treasV; rw [right_simple]; decide
set_option maxHeartbeats 2000000 in
set_option maxRecDepth 100000 in
theorem awake15_any (w : World) : Calls Try.prog 30 #[] w fun e w' => e = .returned (.bool true) ∧ Below w.heap.size w w' := by
  have H1 := Lib.hid (fun W => fsplit_any simpleP 3 (by omega) W)
  rw [burn_simple.1, burn_simple.2] at H1
  have H2 : Hid (∀ W : World, Calls Try.prog 33 #[.agg simpleP.cells, .agg #[.int .u64 25, .int .u64 20, .int .u64 8, .int .i64 0], .int .i64 3] W fun e w' => e = .returned (.int .u64 2) ∧ Below W.heap.size W w') := Lib.hid fun W => by
    have h := fof_any simpleP ⟨25, 20, 8, 0⟩ 3 ⟨by decide, by decide, by decide, by unfold i64ok; decide⟩ W
    rw [show fineV simpleP ⟨25, 20, 8, 0⟩ 3 = 2 by rw [fineV, right_simple]; decide] at h
    exact h
  go_enter Try.func30, Try.ntmps30
  go_wp2_with fail
  have hB0 := Below.refl w.heap.size w
  refine (simple_any _).mono ?_
  rintro e w1 ⟨rfl, hb1⟩
  have hB1 := Below.then hB0 hb1
  clear  hB0 hb1
  have r2 := row_at w1 simpleP.cells 24 _ rfl
  have hB2 := Below.allocT hB1 (.cells simpleP.cells 24)
  go_wp2_with fail
  clear  hB1
  generalize w1.alloc (.cells simpleP.cells 24) = w2 at *
  refine (H1.out _).mono ?_
  rintro e w3 ⟨rfl, hb3⟩
  have r3 := (row_below hb3 (row_lt r2)).trans r2
  have hB3 := Below.then hB2 hb3
  clear r2 hB2 hb3
  go_wp2_with fail
  refine (H2.out _).mono ?_
  rintro e w4 ⟨rfl, hb4⟩
  have hB4 := Below.then hB3 hb4
  clear r3 hB3 hb4
  go_wp2_with fail
  go_ret
  exact ⟨rfl, hB4⟩
set_option maxHeartbeats 2000000 in
set_option maxRecDepth 100000 in
theorem fineSplits_any (P : Par) (n : Nat) (hn : n < 18446744073709551616) (w : World) : Calls Try.prog 8 #[.agg P.cells, .int .u64 n] w fun e w' => e = .returned (.bool true) ∧ Below w.heap.size w w' := by
  have r0 : row (w.alloc (.cells P.cells 24)) w.heap.size = some P.cells := (by (repeat (first | assumption | (refine row_at _ _ _ _ ?_; first | rfl | (simp only [World.size_alloc]; done) | (simp only [World.size_alloc]; omega)) | (refine (row_past _ _ _ ?_).trans ?_; (focus (first | exact Nat.lt_succ_self _ | ((repeat rw [World.size_alloc]); omega) | (simp; done) | (simp; omega) | omega))) | rw [row_drewN] | rw [row_drew])); (first | done | fail))
  have hB0 : Below w.heap.size w (w.alloc (.cells P.cells 24)) := (by (repeat (first | exact Below.refl _ _ | assumption | (refine Below.allocT ?_ _) | refine Below.drew ?_ | refine below_drewN ?_ _ | (refine Below.then ?_ (by assumption)) | (refine Below.setRow ?_ ?_ _; rotate_left; (focus (first | exact Nat.lt_succ_self _ | ((repeat rw [World.size_alloc]); omega) | (simp; done) | (simp; omega) | omega))) | (refine Below.setCell ?_ ?_ _; rotate_left; (focus (first | exact Nat.lt_succ_self _ | ((repeat rw [World.size_alloc]); omega) | (simp; done) | (simp; omega) | omega))) | (refine Below.then' ?_ (by assumption) ?_; rotate_left; (focus (first | exact Nat.lt_succ_self _ | ((repeat rw [World.size_alloc]); omega) | (simp; done) | (simp; omega) | omega))) | fail)); (first | done | fail))
  have HS := Lib.hid (fun W => fsplit_any P n hn W)
  have HR := Lib.hid (fun W => right_any P W)
  cases hr : rightB P
  · rw [show burnV P n = 0 by simp [burnV, hr], show treasV P n = 0 by simp [treasV, hr]] at HS
    rw [hr] at HR
    clear hr
    go_enter Try.func8, Try.ntmps8
    go_wp2_with fail
    generalize w.alloc (.cells P.cells 24) = w0 at *
    refine (awake15_any _).mono ?_
    rintro e w1 ⟨rfl, hb1⟩
    have r1 := (row_below hb1 (row_lt r0)).trans r0
    have hB1 := Below.then hB0 hb1
    clear r0 hB0 hb1
    go_wp2_with fail
    refine (HS.out _).mono ?_
    rintro e w2 ⟨rfl, hb2⟩
    have r2 := (row_below hb2 (row_lt r1)).trans r1
    have hB2 := Below.then hB1 hb2
    clear r1 hB1 hb2
    go_wp2_with fail
    refine (plain_any P _).mono ?_
    rintro e w3 ⟨rfl, hb3⟩
    have r3 := (row_below hb3 (row_lt r2)).trans r2
    have hB3 := Below.then hB2 hb3
    clear r2 hB2 hb3
    have r4 := (row_past w3 (.cells P.cells 30) _ (row_lt r3)).trans r3
    have p4 := row_at w3 P.cells 30 _ rfl
    have hB4 := Below.allocT hB3 (.cells P.cells 30)
    have lr3 := row_lt r3
    have gr4 := lr3
    go_wp2_with fail
    clear r3 lr3 hB3
    generalize w3.alloc (.cells P.cells 30) = w4 at *
    refine (HR.out _).mono ?_
    rintro e w5 ⟨rfl, hb5⟩
    have hB5 := Below.then hB4 hb5
    clear r4 p4 hB4 hb5
    go_wp2_with fail
    go_ret
    exact ⟨rfl, hB5⟩
  · rw [show burnV P n = cutN n P.burn by simp [burnV, hr], show treasV P n = n - cutN n P.burn by simp [treasV, hr]] at HS
    rw [hr] at HR
    have hF := right_fine hr
    have HB := Lib.hid (fun W => rburned_any P n hF hn W)
    have hle := cutN_le n P.burn hF.b'
    clear hr hF
    generalize cutN n P.burn = b at *
    obtain ⟨d, hd⟩ : ∃ d, d = n - b := ⟨_, rfl⟩
    have E1 : IntKind.u64.wrap ((n : Int) - (b : Int)) = (d : Int) := by rw [show (n : Int) - (b : Int) = ((d : Nat) : Int) by omega]; exact Bits.wrapN _ (by omega)
    rw [← hd] at HS
    clear hd hle
    go_enter Try.func8, Try.ntmps8
    go_wp2_with fail
    generalize w.alloc (.cells P.cells 24) = w0 at *
    refine (awake15_any _).mono ?_
    rintro e w1 ⟨rfl, hb1⟩
    have r1 := (row_below hb1 (row_lt r0)).trans r0
    have hB1 := Below.then hB0 hb1
    clear r0 hB0 hb1
    go_wp2_with fail
    refine (HS.out _).mono ?_
    rintro e w2 ⟨rfl, hb2⟩
    have r2 := (row_below hb2 (row_lt r1)).trans r1
    have hB2 := Below.then hB1 hb2
    clear r1 hB1 hb2
    go_wp2_with fail
    refine (plain_any P _).mono ?_
    rintro e w3 ⟨rfl, hb3⟩
    have r3 := (row_below hb3 (row_lt r2)).trans r2
    have hB3 := Below.then hB2 hb3
    clear r2 hB2 hb3
    have r4 := (row_past w3 (.cells P.cells 30) _ (row_lt r3)).trans r3
    have p4 := row_at w3 P.cells 30 _ rfl
    have hB4 := Below.allocT hB3 (.cells P.cells 30)
    have lr3 := row_lt r3
    have gr4 := lr3
    go_wp2_with fail
    clear r3 lr3 hB3
    generalize w3.alloc (.cells P.cells 30) = w4 at *
    refine (HR.out _).mono ?_
    rintro e w5 ⟨rfl, hb5⟩
    have p5 := (row_below hb5 (row_lt p4)).trans p4
    have hB5 := Below.then hB4 hb5
    clear r4 p4 hB4 hb5
    go_wp2_with fail
    refine (HB.out _).mono ?_
    rintro e w6 ⟨rfl, hb6⟩
    have hB6 := Below.then hB5 hb6
    clear p5 hB5 hb6
    go_wp2_with fail
    go_ret
    exact ⟨rfl, hB6⟩
set_option maxHeartbeats 4000000 in
set_option maxRecDepth 100000 in
theorem fineTakes_any (P : Par) (s : St) (mode : Int) (hs : s.Ok) (w : World) : Calls Try.prog 9 #[.agg P.cells, .agg s.cells, .int .i64 mode] w fun e w' => e = .returned (.bool true) ∧ Below w.heap.size w w' := by
  have r0 : row ((w.alloc (.cells P.cells 24)).alloc (.cells s.cells 56)) w.heap.size = some P.cells := (by (repeat (first | assumption | (refine row_at _ _ _ _ ?_; first | rfl | (simp only [World.size_alloc]; done) | (simp only [World.size_alloc]; omega)) | (refine (row_past _ _ _ ?_).trans ?_; (focus (first | exact Nat.lt_succ_self _ | ((repeat rw [World.size_alloc]); omega) | (simp; done) | (simp; omega) | omega))) | rw [row_drewN] | rw [row_drew])); (first | done | fail))
  have s0 : row ((w.alloc (.cells P.cells 24)).alloc (.cells s.cells 56)) (w.heap.size + 1) = some s.cells := (by (repeat (first | assumption | (refine row_at _ _ _ _ ?_; first | rfl | (simp only [World.size_alloc]; done) | (simp only [World.size_alloc]; omega)) | (refine (row_past _ _ _ ?_).trans ?_; (focus (first | exact Nat.lt_succ_self _ | ((repeat rw [World.size_alloc]); omega) | (simp; done) | (simp; omega) | omega))) | rw [row_drewN] | rw [row_drew])); (first | done | fail))
  have hB0 : Below w.heap.size w ((w.alloc (.cells P.cells 24)).alloc (.cells s.cells 56)) := (by (repeat (first | exact Below.refl _ _ | assumption | (refine Below.allocT ?_ _) | refine Below.drew ?_ | refine below_drewN ?_ _ | (refine Below.then ?_ (by assumption)) | (refine Below.setRow ?_ ?_ _; rotate_left; (focus (first | exact Nat.lt_succ_self _ | ((repeat rw [World.size_alloc]); omega) | (simp; done) | (simp; omega) | omega))) | (refine Below.setCell ?_ ?_ _; rotate_left; (focus (first | exact Nat.lt_succ_self _ | ((repeat rw [World.size_alloc]); omega) | (simp; done) | (simp; omega) | omega))) | (refine Below.then' ?_ (by assumption) ?_; rotate_left; (focus (first | exact Nat.lt_succ_self _ | ((repeat rw [World.size_alloc]); omega) | (simp; done) | (simp; omega) | omega))) | fail)); (first | done | fail))
  have HO := Lib.hid (fun W => fof_any P s mode hs W)
  have HT := Lib.hid (fun W => ftake_any P s mode hs W)
  have HR := Lib.hid (fun W => right_any P W)
  cases hr : rightB P
  · rw [show fineV P s mode = 0 by simp [fineV, hr]] at HO HT
    rw [show burnV P 0 = 0 by simp [burnV, hr], show treasV P 0 = 0 by simp [treasV, hr], show lessS s 0 = s from rfl] at HT
    rw [hr] at HR
    clear hr
    go_enter Try.func9, Try.ntmps9
    go_wp2_with fail
    generalize (w.alloc (.cells P.cells 24)).alloc (.cells s.cells 56) = w0 at *
    refine (awake15_any _).mono ?_
    rintro e w1 ⟨rfl, hb1⟩
    have r1 := (row_below hb1 (row_lt r0)).trans r0
    have s1 := (row_below hb1 (row_lt s0)).trans s0
    have hB1 := Below.then hB0 hb1
    clear r0 s0 hB0 hb1
    go_wp2_with fail
    refine (HO.out _).mono ?_
    rintro e w2 ⟨rfl, hb2⟩
    have r2 := (row_below hb2 (row_lt r1)).trans r1
    have s2 := (row_below hb2 (row_lt s1)).trans s1
    have hB2 := Below.then hB1 hb2
    clear r1 s1 hB1 hb2
    go_wp2_with fail
    refine (HT.out _).mono ?_
    rintro e w3 ⟨rfl, hb3⟩
    have r3 := (row_below hb3 (row_lt r2)).trans r2
    have s3 := (row_below hb3 (row_lt s2)).trans s2
    have hB3 := Below.then hB2 hb3
    clear r2 s2 hB2 hb3
    have r4 := (row_past w3 (.cells s.cells 56) _ (row_lt r3)).trans r3
    have s4 := (row_past w3 (.cells s.cells 56) _ (row_lt s3)).trans s3
    have a4 := row_at w3 s.cells 56 _ rfl
    have hB4 := Below.allocT hB3 (.cells s.cells 56)
    have lr3 := row_lt r3
    have ls3 := row_lt s3
    have gr4 := lr3
    have gs4 := ls3
    go_wp2_with fail
    clear r3 lr3 s3 ls3 hB3
    generalize w3.alloc (.cells s.cells 56) = w4 at *
    refine (plain_any P _).mono ?_
    rintro e w5 ⟨rfl, hb5⟩
    have s5 := (row_below hb5 (row_lt s4)).trans s4
    have a5 := (row_below hb5 (row_lt a4)).trans a4
    have hB5 := Below.then hB4 hb5
    clear r4 s4 a4 hB4 hb5
    have s6 := (row_past w5 (.cells P.cells 30) _ (row_lt s5)).trans s5
    have a6 := (row_past w5 (.cells P.cells 30) _ (row_lt a5)).trans a5
    have p6 := row_at w5 P.cells 30 _ rfl
    have hB6 := Below.allocT hB5 (.cells P.cells 30)
    have ls5 := row_lt s5
    have la5 := row_lt a5
    have gs6 := ls5
    have ga6 := la5
    go_wp2_with fail
    clear s5 ls5 a5 la5 hB5
    generalize w5.alloc (.cells P.cells 30) = w6 at *
    refine (HR.out _).mono ?_
    rintro e w7 ⟨rfl, hb7⟩
    have s7 := (row_below hb7 (row_lt s6)).trans s6
    have a7 := (row_below hb7 (row_lt a6)).trans a6
    have hB7 := Below.then hB6 hb7
    clear s6 a6 p6 hB6 hb7
    go_wp2_with fail
    go_ret
    exact ⟨rfl, hB7⟩
  · have hle := fineV_le P s mode
    have hsb := hs.bal
    rw [show fineV P s mode = fineN P s mode by simp [fineV, hr]] at HO HT hle
    have hF := right_fine hr
    have HRO := Lib.hid (fun W => rfof_any P s mode hF hs W)
    have HB := Lib.hid (fun W => rburned_any P (fineN P s mode) hF (by omega) W)
    have hb := cutN_le (fineN P s mode) P.burn hF.b'
    rw [show burnV P (fineN P s mode) = cutN (fineN P s mode) P.burn by simp [burnV, hr], show treasV P (fineN P s mode) = fineN P s mode - cutN (fineN P s mode) P.burn by simp [treasV, hr]] at HT
    rw [hr] at HR
    clear hr hF hs
    generalize fineN P s mode = n at *
    generalize cutN n P.burn = b at *
    obtain ⟨d, hd⟩ : ∃ d, d = n - b := ⟨_, rfl⟩
    have E1 : IntKind.u64.wrap ((n : Int) - (b : Int)) = (d : Int) := by rw [show (n : Int) - (b : Int) = ((d : Nat) : Int) by omega]; exact Bits.wrapN _ (by omega)
    obtain ⟨x, hx⟩ : ∃ x, x = s.bal - n := ⟨_, rfl⟩
    have E2 : IntKind.u64.wrap ((s.bal : Int) - (n : Int)) = (x : Int) := by rw [show (s.bal : Int) - (n : Int) = ((x : Nat) : Int) by omega]; exact Bits.wrapN _ (by omega)
    rw [← hd, show lessS s n = ⟨x, s.eff, s.score, s.streak⟩ by rw [hx]; rfl] at HT
    clear hd hx hle hb hsb
    go_enter Try.func9, Try.ntmps9
    go_wp2_with fail
    generalize (w.alloc (.cells P.cells 24)).alloc (.cells s.cells 56) = w0 at *
    refine (awake15_any _).mono ?_
    rintro e w1 ⟨rfl, hb1⟩
    have r1 := (row_below hb1 (row_lt r0)).trans r0
    have s1 := (row_below hb1 (row_lt s0)).trans s0
    have hB1 := Below.then hB0 hb1
    clear r0 s0 hB0 hb1
    go_wp2_with fail
    refine (HO.out _).mono ?_
    rintro e w2 ⟨rfl, hb2⟩
    have r2 := (row_below hb2 (row_lt r1)).trans r1
    have s2 := (row_below hb2 (row_lt s1)).trans s1
    have hB2 := Below.then hB1 hb2
    clear r1 s1 hB1 hb2
    go_wp2_with fail
    refine (HT.out _).mono ?_
    rintro e w3 ⟨rfl, hb3⟩
    have r3 := (row_below hb3 (row_lt r2)).trans r2
    have s3 := (row_below hb3 (row_lt s2)).trans s2
    have hB3 := Below.then hB2 hb3
    clear r2 s2 hB2 hb3
    have r4 := (row_past w3 (.cells (St.cells ⟨x, s.eff, s.score, s.streak⟩) 56) _ (row_lt r3)).trans r3
    have s4 := (row_past w3 (.cells (St.cells ⟨x, s.eff, s.score, s.streak⟩) 56) _ (row_lt s3)).trans s3
    have a4 := row_at w3 (St.cells ⟨x, s.eff, s.score, s.streak⟩) 56 _ rfl
    have hB4 := Below.allocT hB3 (.cells (St.cells ⟨x, s.eff, s.score, s.streak⟩) 56)
    have lr3 := row_lt r3
    have ls3 := row_lt s3
    have gr4 := lr3
    have gs4 := ls3
    go_wp2_with fail
    clear r3 lr3 s3 ls3 hB3
    generalize w3.alloc (.cells (St.cells ⟨x, s.eff, s.score, s.streak⟩) 56) = w4 at *
    refine (plain_any P _).mono ?_
    rintro e w5 ⟨rfl, hb5⟩
    have s5 := (row_below hb5 (row_lt s4)).trans s4
    have a5 := (row_below hb5 (row_lt a4)).trans a4
    have hB5 := Below.then hB4 hb5
    clear r4 s4 a4 hB4 hb5
    have s6 := (row_past w5 (.cells P.cells 30) _ (row_lt s5)).trans s5
    have a6 := (row_past w5 (.cells P.cells 30) _ (row_lt a5)).trans a5
    have p6 := row_at w5 P.cells 30 _ rfl
    have hB6 := Below.allocT hB5 (.cells P.cells 30)
    have ls5 := row_lt s5
    have la5 := row_lt a5
    have gs6 := ls5
    have ga6 := la5
    go_wp2_with fail
    clear s5 ls5 a5 la5 hB5
    generalize w5.alloc (.cells P.cells 30) = w6 at *
    refine (HR.out _).mono ?_
    rintro e w7 ⟨rfl, hb7⟩
    have s7 := (row_below hb7 (row_lt s6)).trans s6
    have a7 := (row_below hb7 (row_lt a6)).trans a6
    have p7 := (row_below hb7 (row_lt p6)).trans p6
    have hB7 := Below.then hB6 hb7
    clear s6 a6 p6 hB6 hb7
    go_wp2_with fail
    refine (HRO.out _).mono ?_
    rintro e w8 ⟨rfl, hb8⟩
    have s8 := (row_below hb8 (row_lt s7)).trans s7
    have a8 := (row_below hb8 (row_lt a7)).trans a7
    have p8 := (row_below hb8 (row_lt p7)).trans p7
    have hB8 := Below.then hB7 hb8
    clear s7 a7 p7 hB7 hb8
    go_wp2_with fail
    refine (HB.out _).mono ?_
    rintro e w9 ⟨rfl, hb9⟩
    have s9 := (row_below hb9 (row_lt s8)).trans s8
    have a9 := (row_below hb9 (row_lt a8)).trans a8
    have hB9 := Below.then hB8 hb9
    clear s8 a8 p8 hB8 hb9
    have cs9 := fun i => row_cell s9 i
    have ls9 := row_lt s9
    have ca9 := fun i => row_cell a9 i
    have la9 := row_lt a9
    go_wp2_with fail
    go_ret
    exact ⟨rfl, hB9⟩
theorem upQ_mono {n m c : Nat} (h : n ≤ m) : upQ n c ≤ upQ m c := by
  rcases Nat.eq_zero_or_pos c with hc | hc
  · subst hc; unfold upQ; simp; split <;> split <;> omega
  · have h1 := Nat.div_le_div_right (c := c) h
    unfold upQ
    split
    · omega
    · split
      · rename_i h2 h3
        have e1 := Nat.div_add_mod n c
        have e2 := Nat.div_add_mod m c
        rcases Nat.lt_or_ge (n / c) (m / c) with hl | hg
        · omega
        · have : n / c = m / c := by omega
          rw [this] at e1
          omega
      · omega
theorem upQ_anti {n c d : Nat} (hc : 0 < c) (h : c ≤ d) : upQ n d ≤ upQ n c := by
  have h1 := upQ_mul (n := n) hc
  have h2 : n ≤ upQ n c * d := Nat.le_trans h1 (Nat.mul_le_mul_left _ h)
  have hd : 0 < d := by omega
  unfold upQ
  have e := Nat.div_add_mod n d
  have hm := Nat.mod_lt n hd
  rcases Nat.lt_or_ge (upQ n c) (n / d + if n % d = 0 then 0 else 1) with hl | hg
  · exfalso
    have h3 : upQ n c * d ≤ (n / d) * d := by
      refine Nat.mul_le_mul_right _ ?_
      split at hl <;> omega
    rw [Nat.mul_comm (n / d) d] at h3
    split at hl
    · rename_i h0
      have h4 : upQ n c + 1 ≤ n / d := by omega
      have h5 := Nat.mul_le_mul_right d h4
      rw [Nat.add_mul, Nat.mul_comm (n / d) d] at h5
      omega
    · omega
  · exact hg
theorem least_loss {P : Par} (hF : FineOk P) (h2 : P.quotEm ≤ P.quot) {s : St} {m : Int} (hm : m = 3 ∨ m = 4) (h3 : P.bias ≤ s.score) (h4 : P.inc ≤ s.eff) : leastN P ≤ lossQ P s m := by
  have h5 : P.inc * P.bias ≤ s.eff * s.score := Nat.mul_le_mul h4 h3
  unfold leastN lossQ
  rcases hm with rfl | rfl
  · rw [if_pos rfl]; exact upQ_mono h5
  · rw [if_neg (by decide), if_pos rfl]; exact Nat.le_trans (upQ_mono h5) (upQ_anti hF.e h2)
set_option maxHeartbeats 8000000 in
set_option maxRecDepth 100000 in
theorem fineLeast_any (P : Par) (s : St) (mode : Int) (hs : s.Ok) (w : World) : Calls Try.prog 10 #[.agg P.cells, .agg s.cells, .int .i64 mode] w fun e w' => e = .returned (.bool true) ∧ Below w.heap.size w w' := by
  have r0 : row ((w.alloc (.cells P.cells 24)).alloc (.cells s.cells 56)) w.heap.size = some P.cells := (by (repeat (first | assumption | (refine row_at _ _ _ _ ?_; first | rfl | (simp only [World.size_alloc]; done) | (simp only [World.size_alloc]; omega)) | (refine (row_past _ _ _ ?_).trans ?_; (focus (first | exact Nat.lt_succ_self _ | ((repeat rw [World.size_alloc]); omega) | (simp; done) | (simp; omega) | omega))) | rw [row_drewN] | rw [row_drew])); (first | done | fail))
  have s0 : row ((w.alloc (.cells P.cells 24)).alloc (.cells s.cells 56)) (w.heap.size + 1) = some s.cells := (by (repeat (first | assumption | (refine row_at _ _ _ _ ?_; first | rfl | (simp only [World.size_alloc]; done) | (simp only [World.size_alloc]; omega)) | (refine (row_past _ _ _ ?_).trans ?_; (focus (first | exact Nat.lt_succ_self _ | ((repeat rw [World.size_alloc]); omega) | (simp; done) | (simp; omega) | omega))) | rw [row_drewN] | rw [row_drew])); (first | done | fail))
  have hB0 : Below w.heap.size w ((w.alloc (.cells P.cells 24)).alloc (.cells s.cells 56)) := (by (repeat (first | exact Below.refl _ _ | assumption | (refine Below.allocT ?_ _) | refine Below.drew ?_ | refine below_drewN ?_ _ | (refine Below.then ?_ (by assumption)) | (refine Below.setRow ?_ ?_ _; rotate_left; (focus (first | exact Nat.lt_succ_self _ | ((repeat rw [World.size_alloc]); omega) | (simp; done) | (simp; omega) | omega))) | (refine Below.setCell ?_ ?_ _; rotate_left; (focus (first | exact Nat.lt_succ_self _ | ((repeat rw [World.size_alloc]); omega) | (simp; done) | (simp; omega) | omega))) | (refine Below.then' ?_ (by assumption) ?_; rotate_left; (focus (first | exact Nat.lt_succ_self _ | ((repeat rw [World.size_alloc]); omega) | (simp; done) | (simp; omega) | omega))) | fail)); (first | done | fail))
  have hsb := hs.bal
  have hle := fineV_le P s mode
  have hb : burnV P (fineV P s mode) ≤ fineV P s mode ∧ treasV P (fineV P s mode) = fineV P s mode - burnV P (fineV P s mode) := by
    cases hr : rightB P
    · simp [burnV, treasV, fineV, hr]
    · simp only [burnV, treasV, hr, if_true]
      exact ⟨cutN_le _ _ (right_fine hr).b', trivial⟩
  have hL : checkE P = 0 → (mode = 3 ∨ mode = 4) → P.bias ≤ s.score → P.inc ≤ s.eff → fineV P s mode < s.bal → leastV P ≤ fineV P s mode := fun hc hm h3 h4 h5 => by
    cases hr : rightB P
    · simp [checkE, hr] at hc
    · have h6 := least_loss (right_fine hr) (scores_facts (right_facts hr).2.1).2.2.2.2.2.2.2.1 hm h3 h4
      simp only [leastV, fineV, fineN, hr, if_true] at h5 ⊢
      omega
  have HT := Lib.hid (fun W => ftake_any P s mode hs W)
  have HLe := Lib.hid (fun W => least_any P W)
  have hce : checkE P = 0 ∨ checkE P = 70 := by unfold checkE; split <;> simp
  rw [hb.2] at HT
  have hb1 := hb.1
  clear hb hs
  generalize fineV P s mode = n at *
  generalize burnV P n = b at *
  generalize leastV P = l at *
  generalize checkE P = ce at *
  obtain ⟨x, hx⟩ : ∃ x, x = s.bal - n := ⟨_, rfl⟩
  obtain ⟨y, hy⟩ : ∃ y, y = n - b := ⟨_, rfl⟩
  have E1 : IntKind.u64.wrap ((s.bal : Int) - (x : Int)) = (n : Int) := by rw [show (s.bal : Int) - (x : Int) = ((n : Nat) : Int) by omega]; exact Bits.wrapN _ (by omega)
  have E2 : IntKind.u64.wrap ((n : Int) - (b : Int)) = (y : Int) := by rw [show (n : Int) - (b : Int) = ((y : Nat) : Int) by omega]; exact Bits.wrapN _ (by omega)
  have g1 : x ≤ s.bal := by omega
  have g2 : b ≤ n := by omega
  rw [← hy, show lessS s n = ⟨x, s.eff, s.score, s.streak⟩ by rw [hx]; rfl] at HT
  have hcase : (ce = 70) ∨ (ce = 0 ∧ ¬ mode = 3 ∧ ¬ mode = 4) ∨ (ce = 0 ∧ (mode = 3 ∨ mode = 4) ∧ s.score < P.bias) ∨ (ce = 0 ∧ (mode = 3 ∨ mode = 4) ∧ ¬ s.score < P.bias ∧ s.eff < P.inc) ∨ (ce = 0 ∧ (mode = 3 ∨ mode = 4) ∧ ¬ s.score < P.bias ∧ ¬ s.eff < P.inc ∧ ((x : Int) == 0) = true) ∨ (ce = 0 ∧ (mode = 3 ∨ mode = 4) ∧ ¬ s.score < P.bias ∧ ¬ s.eff < P.inc ∧ ((x : Int) == 0) = false ∧ l ≤ n) := by
    rcases hce with h | h
    · by_cases hm : mode = 3 ∨ mode = 4
      · by_cases h1 : s.score < P.bias
        · exact .inr (.inr (.inl ⟨h, hm, h1⟩))
        · by_cases h2 : s.eff < P.inc
          · exact .inr (.inr (.inr (.inl ⟨h, hm, h1, h2⟩)))
          · by_cases h0 : x = 0
            · exact .inr (.inr (.inr (.inr (.inl ⟨h, hm, h1, h2, by rw [h0]; rfl⟩))))
            · exact .inr (.inr (.inr (.inr (.inr ⟨h, hm, h1, h2, beq_eq_false_iff_ne.2 (by omega), hL h hm (by omega) (by omega) (by omega)⟩))))
      · exact .inr (.inl ⟨h, fun h => hm (.inl h), fun h => hm (.inr h)⟩)
    · exact .inl h
  clear hL hx hy hle hb1 hsb hce
  rcases hcase with rfl | ⟨rfl, m3, m4⟩ | ⟨rfl, rfl | rfl, h1⟩ | ⟨rfl, rfl | rfl, h1, h2⟩ | ⟨rfl, rfl | rfl, h1, h2, h3⟩ | ⟨rfl, rfl | rfl, h1, h2, h3, h4⟩
  all_goals (try have n3 : (mode == 3) = false := beq_eq_false_iff_ne.2 m3)
  all_goals (try have n4 : (mode == 4) = false := beq_eq_false_iff_ne.2 m4)
  all_goals (try have k3 : (mode != 3) = true := bne_iff_ne.2 m3)
  all_goals (try have k4 : (mode != 4) = true := bne_iff_ne.2 m4)
  all_goals (try clear m3 m4)
  all_goals
    go_enter Try.func10, Try.ntmps10
    go_wp2_with fail
    generalize (w.alloc (.cells P.cells 24)).alloc (.cells s.cells 56) = w0 at *
    refine (awake15_any _).mono ?_
    rintro e w1 ⟨rfl, hb1⟩
    have r1 := (row_below hb1 (row_lt r0)).trans r0
    have s1 := (row_below hb1 (row_lt s0)).trans s0
    have hB1 := Below.then hB0 hb1
    clear r0 s0 hB0 hb1
    go_wp2_with fail
    refine (HT.out _).mono ?_
    rintro e w2 ⟨rfl, hb2⟩
    have r2 := (row_below hb2 (row_lt r1)).trans r1
    have s2 := (row_below hb2 (row_lt s1)).trans s1
    have hB2 := Below.then hB1 hb2
    clear r1 s1 hB1 hb2
    have r3 := (row_past w2 (.cells (St.cells ⟨x, s.eff, s.score, s.streak⟩) 56) _ (row_lt r2)).trans r2
    have s3 := (row_past w2 (.cells (St.cells ⟨x, s.eff, s.score, s.streak⟩) 56) _ (row_lt s2)).trans s2
    have a3 := row_at w2 (St.cells ⟨x, s.eff, s.score, s.streak⟩) 56 _ rfl
    have hB3 := Below.allocT hB2 (.cells (St.cells ⟨x, s.eff, s.score, s.streak⟩) 56)
    have lr2 := row_lt r2
    have ls2 := row_lt s2
    have cr2 := fun i => row_cell r2 i
    have cs2 := fun i => row_cell s2 i
    have gr3 := lr2
    have gs3 := ls2
    go_wp2_with fail
    clear r2 lr2 s2 ls2 cr2 cs2 hB2
    generalize w2.alloc (.cells (St.cells ⟨x, s.eff, s.score, s.streak⟩) 56) = w3 at *
    have cr3 := fun i => row_cell r3 i
    have lr3 := row_lt r3
    have cs3 := fun i => row_cell s3 i
    have ls3 := row_lt s3
    refine (HLe.out _).mono ?_
    rintro e w4 ⟨rfl, hb4⟩
    have r4 := (row_below hb4 (row_lt r3)).trans r3
    have s4 := (row_below hb4 (row_lt s3)).trans s3
    have a4 := (row_below hb4 (row_lt a3)).trans a3
    have hB4 := Below.then hB3 hb4
    clear r3 s3 a3 cr3 cs3 lr3 ls3 hB3 hb4
    have cr4 := fun i => row_cell r4 i
    have lr4 := row_lt r4
    have cs4 := fun i => row_cell s4 i
    have ls4 := row_lt s4
    have ca4 := fun i => row_cell a4 i
    have la4 := row_lt a4
    go_wp2_with fail
    go_ret
    exact ⟨rfl, hB4⟩
end Go.Proofs.Ytecdfphfgaeodaa
