/-
  What package budget answers, and bullionref13.
-/
import Derived.Test.YtkfbnaafpikgfaaRoot
import Derived.Test.YtkfbnaafpikgfaaLeaks
import Derived.Test.YtkfbnaafpikgfaaSt
import Derived.Test.YtkfbnaafpikgfaaCheck
import Derived.Test.YtkfbnaafpikgfaaMoney
import Derived.Test.YtkfbnaafpikgfaaRatio2
import Derived.Test.YtkfbnaafpikgfaaRef02b
import Derived.Test.YtkfbnaafpikgfaaLaw07a
import Derived.Test.YtkfbnaafpikgfaaCalm
namespace Go.Proofs.Ytkfbnaafpikgfaa
open Go.RowKit
set_option linter.unusedVariables false

def budN (P : Par) (a : Nat) : Nat := if a = 0 ∨ 4611686018427387904 < a then 0 else quoV (a * P.rate) (1048576 * rootN a)
def budV (P : Par) (a : Nat) : Nat := if rightB P then budN P a else 0
def mintN (n issued most : Nat) (leaks : Bool) : Nat := if leaks then 0 else if issued + n ≤ most then n else 0
theorem quoV_lt64 (n c : Nat) : quoV n c < 18446744073709551616 := by
  unfold quoV fit
  split
  · omega
  · split
    · rename_i h; rw [mostN_eq] at h; omega
    · omega
theorem budV_lt (P : Par) (a : Nat) : budV P a < 18446744073709551616 := by
  unfold budV budN
  split
  · split
    · omega
    · exact quoV_lt64 _ _
  · omega
set_option maxHeartbeats 1000000 in
theorem together_any (m : Nat) (A : Option Addr) (xs : List Nat) (n c : Nat) (hm0 : m < 18446744073709551616) (hn : xs.length = n) (hx : ∀ i, xs.getD i 0 < 18446744073709551616) (hm : n ≤ 9223372036854775807) (w : World) (hU : U64s w A xs) :
    Calls Try.prog 44 #[.int .u64 m, .slice A n c] w fun e w' => e = .returned (.bool (decide (total xs ≤ m))) ∧ w = w' := by
  have HS := Lib.hid (msum_any A xs n c hn hx hm w hU)
  clear hn hx hm hU
  by_cases h : total xs ≤ 18446744073709551615
  · rw [fit_le h, told_le h] at HS
    clear h
    generalize total xs = t at *
    by_cases hc : t ≤ m
    all_goals
      have HC := Lib.hid hc
      go_enter Try.func44, Try.ntmps44
      go_wp2_with fail
      refine HS.out.mono ?_
      rintro e w' ⟨rfl, rfl⟩
      go_wp2_with fail
      go_ret
      exact ⟨by have := HC.out; simp [this], rfl⟩
  · rw [fit_gt h, told_gt h] at HS
    have HC : Hid (decide (total xs ≤ m) = false) := Lib.hid (by simp; omega)
    rw [HC.out]
    clear h HC
    go_enter Try.func44, Try.ntmps44
    go_wp2_with fail
    refine HS.out.mono ?_
    rintro e w' ⟨rfl, rfl⟩
    go_wp2_with fail
    go_ret
    exact ⟨rfl, rfl⟩
set_option maxHeartbeats 2000000 in
set_option maxRecDepth 100000 in
theorem bof_any (P : Par) (a : Nat) (ha : a < 18446744073709551616) (w : World) : Calls Try.prog 13 #[.agg P.cells, .int .u64 a] w fun e w' => e = .returned (.int .u64 ((budV P a : Nat) : Int)) ∧ Below w.heap.size w w' := by
  have r0 : row (w.alloc (.cells P.cells 24)) w.heap.size = some P.cells := (by (repeat (first | assumption | (refine row_at _ _ _ _ ?_; first | rfl | (simp only [World.size_alloc]; done) | (simp only [World.size_alloc]; omega)) | (refine (row_past _ _ _ ?_).trans ?_; (focus (first | exact Nat.lt_succ_self _ | ((repeat rw [World.size_alloc]); omega) | (simp; done) | (simp; omega) | omega))) | rw [row_drewN] | rw [row_drew])); (first | done | fail))
  have hB0 : Below w.heap.size w (w.alloc (.cells P.cells 24)) := (by (repeat (first | exact Below.refl _ _ | assumption | (refine Below.allocT ?_ _) | refine Below.drew ?_ | refine below_drewN ?_ _ | (refine Below.then ?_ (by assumption)) | (refine Below.setRow ?_ ?_ _; rotate_left; (focus (first | exact Nat.lt_succ_self _ | ((repeat rw [World.size_alloc]); omega) | (simp; done) | (simp; omega) | omega))) | (refine Below.setCell ?_ ?_ _; rotate_left; (focus (first | exact Nat.lt_succ_self _ | ((repeat rw [World.size_alloc]); omega) | (simp; done) | (simp; omega) | omega))) | (refine Below.then' ?_ (by assumption) ?_; rotate_left; (focus (first | exact Nat.lt_succ_self _ | ((repeat rw [World.size_alloc]); omega) | (simp; done) | (simp; omega) | omega))) | fail)); (first | done | fail))
  by_cases h0 : a = 0
  · subst h0
    have HV : Hid (budV P 0 = 0) := Lib.hid (by unfold budV budN; split <;> simp)
    go_enter Try.func13, Try.ntmps13
    go_wp2_with fail
    go_ret
    exact ⟨by rw [HV.out]; rfl, hB0⟩
  · have k0 : ((a : Int) == 0) = false := beq_eq_false_iff_ne.2 (by omega)
    by_cases h1 : 4611686018427387904 < a
    · have HV : Hid (budV P a = 0) := Lib.hid (by unfold budV; rw [show budN P a = 0 from if_pos (.inr h1)]; split <;> rfl)
      go_enter Try.func13, Try.ntmps13
      go_wp2_with fail
      go_ret
      exact ⟨by rw [HV.out]; rfl, hB0⟩
    · have HC := Lib.hid (fun W => check_any P W)
      cases hr : rightB P
      · rw [show checkE P = 70 by simp [checkE, hr]] at HC
        have HV : Hid (budV P a = 0) := Lib.hid (by simp [budV, hr])
        clear hr
        go_enter Try.func13, Try.ntmps13
        go_wp2_with fail
        generalize w.alloc (.cells P.cells 24) = w0 at *
        refine (HC.out _).mono ?_
        rintro e w1 ⟨rfl, hb1⟩
        go_wp2_with fail
        go_ret
        exact ⟨by rw [HV.out]; rfl, Below.then hB0 hb1⟩
      · rw [show checkE P = 0 by simp [checkE, hr]] at HC
        have hrate := (others_facts (right_facts hr).2.2.1).1
        have hrl := root_lt ha
        have HR := Lib.hid (fun W => root_any a ha W)
        have HD := Lib.hid (fun W => down_any a P.rate (1048576 * rootN a) ha (by omega) (by omega) W)
        have HV : Hid (budV P a = quoV (a * P.rate) (1048576 * rootN a)) := Lib.hid (by unfold budV budN; rw [if_pos hr, if_neg (by omega)])
        have HZ : Hid (quoE (a * P.rate) (1048576 * rootN a) = 0 ∨ (quoE (a * P.rate) (1048576 * rootN a) = 10 ∧ quoV (a * P.rate) (1048576 * rootN a) = 0)) := Lib.hid (by
          have hc : 0 < 1048576 * rootN a := by have := root_pos (n := a) (by omega); omega
          unfold quoE quoV
          rw [if_neg (by omega), if_neg (by omega)]
          by_cases hq : a * P.rate / (1048576 * rootN a) ≤ 18446744073709551615
          · exact .inl (told_le hq)
          · exact .inr ⟨told_gt hq, fit_gt hq⟩)
        generalize quoV (a * P.rate) (1048576 * rootN a) = q at *
        generalize quoE (a * P.rate) (1048576 * rootN a) = qe at *
        obtain ⟨c, hc⟩ : ∃ c, c = 1048576 * rootN a := ⟨_, rfl⟩
        have E1 : IntKind.u64.wrap (1048576 * ((rootN a : Nat) : Int)) = (c : Int) := by rw [show 1048576 * ((rootN a : Nat) : Int) = ((c : Nat) : Int) by omega]; exact Bits.wrapN _ (by omega)
        rw [← hc] at HD
        clear hr hrate hrl hc
        generalize rootN a = rt at *
        have hz := HZ.out
        clear HZ
        rcases hz with rfl | ⟨rfl, rfl⟩
        all_goals
          go_enter Try.func13, Try.ntmps13
          go_wp2_with fail
          generalize w.alloc (.cells P.cells 24) = w0 at *
          refine (HC.out _).mono ?_
          rintro e w1 ⟨rfl, hb1⟩
          have r1 := (row_below hb1 (row_lt r0)).trans r0
          have hB1 := Below.then hB0 hb1
          clear r0 hB0 hb1
          go_wp2_with fail
          have HM : Hid (∀ w', Below w1.heap.size w1 w' → ∀ i, w'.cell? ⟨w.heap.size, i, none⟩ = P.cells[i]?) := Lib.hid fun w' h i => row_cell ((row_below h (row_lt r1)).trans r1) i
          (refine wp_region_calm (by kernel_rfl) (by kernel_rfl) ?_; (repeat (first | go_big_quiet_skip | (go_big_quiet_want; apply calm_val; (focus (intro w' hb'; have c1 := HM.out w' hb'; first | fail | (unfold Oper.quietAt; go_simp; first | rfl | (go_at_call 42; exact calm_call hb' (same_below (HR.out _))) | (go_at_call 41; exact calm_call hb' (HD.out _))))); (try simp only [Act.put, List.setIfInBounds_toArray, List.set_cons_zero, List.set_cons_succ]); go_big_quiet_on))); refine wpQuiet_nil ?_; intro w' hb')
          go_wp2_with fail
          go_ret
          exact ⟨by rw [HV.out]; rfl, Below.then hB1 hb'⟩
set_option maxHeartbeats 2000000 in
set_option maxRecDepth 100000 in
theorem bmint_any (P : Par) (a issued most : Nat) (mode : Int) (ha : a < 18446744073709551616) (hi : issued < 18446744073709551616) (hm : most < 18446744073709551616) (w : World) :
    Calls Try.prog 14 #[.agg P.cells, .int .u64 a, .int .u64 issued, .int .u64 most, .int .i64 mode] w fun e w' => e = .returned (.int .u64 ((mintN (budV P a) issued most (leaksB mode) : Nat) : Int)) ∧ Below w.heap.size w w' := by
  have r0 : row (w.alloc (.cells P.cells 24)) w.heap.size = some P.cells := (by (repeat (first | assumption | (refine row_at _ _ _ _ ?_; first | rfl | (simp only [World.size_alloc]; done) | (simp only [World.size_alloc]; omega)) | (refine (row_past _ _ _ ?_).trans ?_; (focus (first | exact Nat.lt_succ_self _ | ((repeat rw [World.size_alloc]); omega) | (simp; done) | (simp; omega) | omega))) | rw [row_drewN] | rw [row_drew])); (first | done | fail))
  have hB0 : Below w.heap.size w (w.alloc (.cells P.cells 24)) := (by (repeat (first | exact Below.refl _ _ | assumption | (refine Below.allocT ?_ _) | refine Below.drew ?_ | refine below_drewN ?_ _ | (refine Below.then ?_ (by assumption)) | (refine Below.setRow ?_ ?_ _; rotate_left; (focus (first | exact Nat.lt_succ_self _ | ((repeat rw [World.size_alloc]); omega) | (simp; done) | (simp; omega) | omega))) | (refine Below.setCell ?_ ?_ _; rotate_left; (focus (first | exact Nat.lt_succ_self _ | ((repeat rw [World.size_alloc]); omega) | (simp; done) | (simp; omega) | omega))) | (refine Below.then' ?_ (by assumption) ?_; rotate_left; (focus (first | exact Nat.lt_succ_self _ | ((repeat rw [World.size_alloc]); omega) | (simp; done) | (simp; omega) | omega))) | fail)); (first | done | fail))
  have hbl := budV_lt P a
  have HO := Lib.hid (fun W => bof_any P a ha W)
  have HL := Lib.hid (fun W => sleaks_any mode W)
  generalize budV P a = n at *
  have HT := Lib.hid (fun (g : Nat) W h => together_any most (some ⟨g, 0, none⟩) [issued, n] 2 2 hm rfl (fun i => by match i with | 0 => exact hi | 1 => exact hbl | i + 2 => simp) (by omega) W h)
  cases hl : leaksB mode
  · by_cases hc : issued + n ≤ most
    all_goals
      have hdec : decide (total [issued, n] ≤ most) = decide (issued + n ≤ most) := by simp [total]
      rw [hdec] at HT
      first | rw [decide_eq_true hc] at HT | rw [decide_eq_false hc] at HT | fail
      rw [hl] at HL
      have HV : Hid (mintN n issued most false = if issued + n ≤ most then n else 0) := Lib.hid (by simp [mintN])
      first | rw [if_pos hc] at HV | rw [if_neg hc] at HV | fail
      clear hdec hc hl
      go_enter Try.func14, Try.ntmps14
      go_wp2_with fail
      generalize w.alloc (.cells P.cells 24) = w0 at *
      refine (HO.out _).mono ?_
      rintro e w1 ⟨rfl, hb1⟩
      have hB1 := Below.then hB0 hb1
      clear r0 hB0 hb1
      go_wp2_with fail
      refine (HL.out _).mono ?_
      rintro e w2 ⟨rfl, rfl⟩
      have u1 : U64s (w1.alloc (.cells #[.int .u64 (issued : Int), .int .u64 (n : Int)] 22)) (some ⟨w1.heap.size, 0, none⟩) [issued, n] := fun _ => ⟨w1.heap.size, 0, rfl, by simp, fun i hi => by
        have hr := row_at w1 #[.int .u64 (issued : Int), .int .u64 (n : Int)] 22 _ rfl
        match i, hi with
        | 0, _ => exact row_cell hr 0
        | 1, _ => exact row_cell hr 1
        | i + 2, h => exact absurd (show i + 2 < 2 from h) (by omega)⟩
      go_wp2_with fail
      refine (HT.out _ _ u1).mono ?_
      rintro e w2 ⟨rfl, rfl⟩
      go_wp2_with fail
      go_ret
      exact ⟨by rw [HV.out]; rfl, (by (repeat (first | exact Below.refl _ _ | assumption | (refine Below.allocT ?_ _) | refine Below.drew ?_ | refine below_drewN ?_ _ | (refine Below.then ?_ (by assumption)) | (refine Below.setRow ?_ ?_ _; rotate_left; (focus (first | exact Nat.lt_succ_self _ | ((repeat rw [World.size_alloc]); omega) | (simp; done) | (simp; omega) | omega))) | (refine Below.setCell ?_ ?_ _; rotate_left; (focus (first | exact Nat.lt_succ_self _ | ((repeat rw [World.size_alloc]); omega) | (simp; done) | (simp; omega) | omega))) | (refine Below.then' ?_ (by assumption) ?_; rotate_left; (focus (first | exact Nat.lt_succ_self _ | ((repeat rw [World.size_alloc]); omega) | (simp; done) | (simp; omega) | omega))) | fail)); (first | done | fail))⟩
  · rw [hl] at HL
    clear hl HT
    go_enter Try.func14, Try.ntmps14
    go_wp2_with fail
    generalize w.alloc (.cells P.cells 24) = w0 at *
    refine (HO.out _).mono ?_
    rintro e w1 ⟨rfl, hb1⟩
    have hB1 := Below.then hB0 hb1
    clear r0 hB0 hb1
    go_wp2_with fail
    refine (HL.out _).mono ?_
    rintro e w2 ⟨rfl, rfl⟩
    go_wp2_with fail
    go_ret
    exact ⟨rfl, hB1⟩
set_option maxHeartbeats 2000000 in
set_option maxRecDepth 100000 in
theorem rbof_any (P : Par) (a : Nat) (ha : a < 18446744073709551616) (hrate : P.rate ≤ 4294967296) (w : World) : Calls Try.prog 17 #[.agg P.cells, .int .u64 a] w fun e w' => e = .returned (.int .u64 ((budN P a : Nat) : Int)) ∧ Below w.heap.size w w' := by
  have r0 : row (w.alloc (.cells P.cells 30)) w.heap.size = some P.cells := (by (repeat (first | assumption | (refine row_at _ _ _ _ ?_; first | rfl | (simp only [World.size_alloc]; done) | (simp only [World.size_alloc]; omega)) | (refine (row_past _ _ _ ?_).trans ?_; (focus (first | exact Nat.lt_succ_self _ | ((repeat rw [World.size_alloc]); omega) | (simp; done) | (simp; omega) | omega))) | rw [row_drewN] | rw [row_drew])); (first | done | fail))
  have hB0 : Below w.heap.size w (w.alloc (.cells P.cells 30)) := (by (repeat (first | exact Below.refl _ _ | assumption | (refine Below.allocT ?_ _) | refine Below.drew ?_ | refine below_drewN ?_ _ | (refine Below.then ?_ (by assumption)) | (refine Below.setRow ?_ ?_ _; rotate_left; (focus (first | exact Nat.lt_succ_self _ | ((repeat rw [World.size_alloc]); omega) | (simp; done) | (simp; omega) | omega))) | (refine Below.setCell ?_ ?_ _; rotate_left; (focus (first | exact Nat.lt_succ_self _ | ((repeat rw [World.size_alloc]); omega) | (simp; done) | (simp; omega) | omega))) | (refine Below.then' ?_ (by assumption) ?_; rotate_left; (focus (first | exact Nat.lt_succ_self _ | ((repeat rw [World.size_alloc]); omega) | (simp; done) | (simp; omega) | omega))) | fail)); (first | done | fail))
  by_cases h0 : a = 0
  · subst h0
    have HV : Hid (budN P 0 = 0) := Lib.hid (by unfold budN; simp)
    clear hrate
    go_enter Try.func17, Try.ntmps17
    go_wp2_with fail
    go_ret
    exact ⟨by rw [HV.out]; rfl, hB0⟩
  · have k0 : ((a : Int) == 0) = false := beq_eq_false_iff_ne.2 (by omega)
    by_cases h1 : 4611686018427387904 < a
    · have HV : Hid (budN P a = 0) := Lib.hid (by unfold budN; rw [if_pos (.inr h1)])
      clear hrate
      go_enter Try.func17, Try.ntmps17
      go_wp2_with fail
      go_ret
      exact ⟨by rw [HV.out]; rfl, hB0⟩
    · have hrl := root_lt ha
      have HR := Lib.hid (fun W => rroot_any a ha W)
      have HD := Lib.hid (fun W => rdown_any a P.rate (1048576 * rootN a) ha (by omega) (by omega) W)
      have HV : Hid (budN P a = quoV (a * P.rate) (1048576 * rootN a)) := Lib.hid (by unfold budN; rw [if_neg (by omega)])
      generalize quoV (a * P.rate) (1048576 * rootN a) = q at *
      generalize quoE (a * P.rate) (1048576 * rootN a) = qe at *
      obtain ⟨c, hc⟩ : ∃ c, c = 1048576 * rootN a := ⟨_, rfl⟩
      have E1 : IntKind.u64.wrap (1048576 * ((rootN a : Nat) : Int)) = (c : Int) := by rw [show 1048576 * ((rootN a : Nat) : Int) = ((c : Nat) : Int) by omega]; exact Bits.wrapN _ (by omega)
      rw [← hc] at HD
      clear hrate hrl hc
      generalize rootN a = rt at *
      go_enter Try.func17, Try.ntmps17
      go_wp2_with fail
      generalize w.alloc (.cells P.cells 30) = w1 at *
      have HM : Hid (∀ w', Below w1.heap.size w1 w' → ∀ i, w'.cell? ⟨w.heap.size, i, none⟩ = P.cells[i]?) := Lib.hid fun w' h i => row_cell ((row_below h (row_lt r0)).trans r0) i
      (refine wp_region_calm (by kernel_rfl) (by kernel_rfl) ?_; (repeat (first | go_big_quiet_skip | (go_big_quiet_want; apply calm_val; (focus (intro w' hb'; have c1 := HM.out w' hb'; first | fail | (unfold Oper.quietAt; go_simp; first | rfl | (go_at_call 49; exact calm_call hb' (HR.out _)) | (go_at_call 48; exact calm_call hb' (HD.out _))))); (try simp only [Act.put, List.setIfInBounds_toArray, List.set_cons_zero, List.set_cons_succ]); go_big_quiet_on))); refine wpQuiet_nil ?_; intro w' hb')
      go_wp2_with fail
      go_ret
      exact ⟨by rw [HV.out]; rfl, Below.then hB0 hb'⟩
set_option maxHeartbeats 2000000 in
set_option maxRecDepth 100000 in
theorem rbmint_any (P : Par) (a issued most : Nat) (lk : Bool) (ha : a < 18446744073709551616) (hi : issued < 18446744073709551616) (hm : most < 18446744073709551616) (hrate : P.rate ≤ 4294967296) (w : World) :
    Calls Try.prog 18 #[.agg P.cells, .int .u64 a, .int .u64 issued, .int .u64 most, .bool lk] w fun e w' => e = .returned (.int .u64 ((mintN (budN P a) issued most lk : Nat) : Int)) ∧ Below w.heap.size w w' := by
  have r0 : row (w.alloc (.cells P.cells 30)) w.heap.size = some P.cells := (by (repeat (first | assumption | (refine row_at _ _ _ _ ?_; first | rfl | (simp only [World.size_alloc]; done) | (simp only [World.size_alloc]; omega)) | (refine (row_past _ _ _ ?_).trans ?_; (focus (first | exact Nat.lt_succ_self _ | ((repeat rw [World.size_alloc]); omega) | (simp; done) | (simp; omega) | omega))) | rw [row_drewN] | rw [row_drew])); (first | done | fail))
  have hB0 : Below w.heap.size w (w.alloc (.cells P.cells 30)) := (by (repeat (first | exact Below.refl _ _ | assumption | (refine Below.allocT ?_ _) | refine Below.drew ?_ | refine below_drewN ?_ _ | (refine Below.then ?_ (by assumption)) | (refine Below.setRow ?_ ?_ _; rotate_left; (focus (first | exact Nat.lt_succ_self _ | ((repeat rw [World.size_alloc]); omega) | (simp; done) | (simp; omega) | omega))) | (refine Below.setCell ?_ ?_ _; rotate_left; (focus (first | exact Nat.lt_succ_self _ | ((repeat rw [World.size_alloc]); omega) | (simp; done) | (simp; omega) | omega))) | (refine Below.then' ?_ (by assumption) ?_; rotate_left; (focus (first | exact Nat.lt_succ_self _ | ((repeat rw [World.size_alloc]); omega) | (simp; done) | (simp; omega) | omega))) | fail)); (first | done | fail))
  have hbl : budN P a < 18446744073709551616 := by unfold budN; split; omega; exact quoV_lt64 _ _
  have HO := Lib.hid (fun W => rbof_any P a ha hrate W)
  generalize budN P a = n at *
  cases lk
  · have l1 := len_u64 hi
    have l2 := len_u64 hbl
    have l3 := len_u64 hm
    have l4 := len_add issued n
    have HV : Hid (mintN n issued most false = if issued + n ≤ most then n else 0) := Lib.hid (by simp [mintN])
    by_cases hc : issued + n ≤ most
    all_goals
      first | rw [if_pos hc] at HV | rw [if_neg hc] at HV | fail
      first | have hq := cmp_le0 hc | have hq := cmp_gt0 hc | fail
      clear hc
      go_enter Try.func18, Try.ntmps18
      go_wp2_with fail
      generalize w.alloc (.cells P.cells 30) = w0 at *
      refine (HO.out _).mono ?_
      rintro e w1 ⟨rfl, hb1⟩
      have hB1 := Below.then hB0 hb1
      clear r0 hB0 hb1
      go_wp2_with fail
      refine (ofn_any issued hi _).mono ?_
      rintro e w2 ⟨A2, x2, rfl, hN2, hb2, _⟩
      go_wp2_with fail
      refine (ofn_any n hbl _).mono ?_
      rintro e w3 ⟨A3, x3, rfl, hN3, hb3, _⟩
      go_wp2_with fail
      refine (add_any A2 A3 _ x2 _ x3 issued n _ (hN2.stay hb3) hN3 (by omega) (by omega)).mono ?_
      rintro e w4 ⟨A4, x4, rfl, hN4, hb4, _⟩
      go_wp2_with fail
      refine (ofn_any most hm _).mono ?_
      rintro e w5 ⟨A5, x5, rfl, hN5, hb5, _⟩
      go_wp2_with fail
      refine (cmp_any A4 A5 _ x4 _ x5 (issued + n) most _ (hN4.stay hb5) hN5 (by omega) (by omega)).mono ?_
      rintro e w6 ⟨rfl, hb6⟩
      go_wp2_with fail
      go_ret
      exact ⟨by rw [HV.out]; rfl, (by (repeat (first | exact Below.refl _ _ | assumption | (refine Below.allocT ?_ _) | refine Below.drew ?_ | refine below_drewN ?_ _ | (refine Below.then ?_ (by assumption)) | (refine Below.setRow ?_ ?_ _; rotate_left; (focus (first | exact Nat.lt_succ_self _ | ((repeat rw [World.size_alloc]); omega) | (simp; done) | (simp; omega) | omega))) | (refine Below.setCell ?_ ?_ _; rotate_left; (focus (first | exact Nat.lt_succ_self _ | ((repeat rw [World.size_alloc]); omega) | (simp; done) | (simp; omega) | omega))) | (refine Below.then' ?_ (by assumption) ?_; rotate_left; (focus (first | exact Nat.lt_succ_self _ | ((repeat rw [World.size_alloc]); omega) | (simp; done) | (simp; omega) | omega))) | fail)); (first | done | fail))⟩
  · go_enter Try.func18, Try.ntmps18
    go_wp2_with fail
    generalize w.alloc (.cells P.cells 30) = w0 at *
    refine (HO.out _).mono ?_
    rintro e w1 ⟨rfl, hb1⟩
    go_wp2_with fail
    go_ret
    exact ⟨rfl, Below.then hB0 hb1⟩
end Go.Proofs.Ytkfbnaafpikgfaa
